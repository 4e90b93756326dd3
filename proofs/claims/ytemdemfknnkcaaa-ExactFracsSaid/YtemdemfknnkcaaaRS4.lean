/- reference 1: Ratio, Compare, Add, Mul, Div. -/
import Derived.Test.YtemdemfknnkcaaaRS1
namespace Go.Proofs.Ytemdemfknnkcaaa
open Go.RowKit Go.Shelf
set_option linter.unusedVariables false
set_option linter.unusedSimpArgs false
theorem rsz_add {a b : Rat} {n : Nat} (ha : Rsz a n) (hb : Rsz b n) : Rsz (a + b) (n + n + 1) := by
  have ha1 := ha.1; have ha2 := ha.2; have hb1 := hb.1; have hb2 := hb.2
  have m1 := dg_length_mul (rnum a) b.den
  have m2 := dg_length_mul (rnum b) a.den
  have m3 := dg_length_mul a.den b.den
  have hdz : a.den * b.den ≠ 0 := Nat.ne_of_gt (Nat.mul_pos (rden_pos a) (rden_pos b))
  by_cases h : rneg a = rneg b
  · rw [← add_same h]
    obtain ⟨q1, q2⟩ := mkR_len (rneg a) (rnum a * b.den + rnum b * a.den) (a.den * b.den) hdz
    have m4 := dg_length_add (rnum a * b.den) (rnum b * a.den)
    exact ⟨by omega, by omega⟩
  · rw [← add_ne h]
    split
    · obtain ⟨q1, q2⟩ := mkR_len (rneg b) (rnum b * a.den - rnum a * b.den) (a.den * b.den) hdz
      have m4 : (dg (rnum b * a.den - rnum a * b.den)).length ≤ (dg (rnum b * a.den)).length := dg_length_mono (Nat.sub_le _ _)
      exact ⟨by omega, by omega⟩
    · obtain ⟨q1, q2⟩ := mkR_len (rneg a) (rnum a * b.den - rnum b * a.den) (a.den * b.den) hdz
      have m4 : (dg (rnum a * b.den - rnum b * a.den)).length ≤ (dg (rnum a * b.den)).length := dg_length_mono (Nat.sub_le _ _)
      exact ⟨by omega, by omega⟩
theorem rsz_neg {a : Rat} {n : Nat} (ha : Rsz a n) : Rsz (-a) n := by obtain ⟨q1, q2, q3⟩ := neg_rat a; unfold Rsz; rw [q2, q3]; exact ha
theorem rsz_sub {a b : Rat} {n : Nat} (ha : Rsz a n) (hb : Rsz b n) : Rsz (a - b) (n + n + 1) := by rw [Rat.sub_eq_add_neg]; exact rsz_add ha (rsz_neg hb)
theorem rsz_mul {a b : Rat} {n : Nat} (ha : Rsz a n) (hb : Rsz b n) : Rsz (a * b) (n + n) := by
  have ha1 := ha.1; have ha2 := ha.2; have hb1 := hb.1; have hb2 := hb.2
  rw [← mul_mkR]
  obtain ⟨q1, q2⟩ := mkR_len (rneg a != rneg b) (rnum a * rnum b) (a.den * b.den) (Nat.ne_of_gt (Nat.mul_pos (rden_pos a) (rden_pos b)))
  have m1 := dg_length_mul (rnum a) (rnum b)
  have m2 := dg_length_mul a.den b.den
  exact ⟨by omega, by omega⟩
theorem rsz_div {a b : Rat} {n : Nat} (hb0 : b ≠ 0) (ha : Rsz a n) (hb : Rsz b n) : Rsz (a / b) (n + n) := by
  have ha1 := ha.1; have ha2 := ha.2; have hb1 := hb.1; have hb2 := hb.2
  rw [← div_mkR hb0]
  obtain ⟨q1, q2⟩ := mkR_len (rneg a != rneg b) (rnum a * b.den) (a.den * rnum b) (Nat.ne_of_gt (Nat.mul_pos (rden_pos a) (Nat.pos_of_ne_zero fun h => hb0 (rnum_zero.1 h))))
  have m1 := dg_length_mul (rnum a) b.den
  have m2 := dg_length_mul a.den (rnum b)
  exact ⟨by omega, by omega⟩
theorem rsgn_zero {r : Rat} : rsgn r = 0 ↔ r = 0 := by unfold rsgn; rw [Int.sign_eq_zero_iff_zero, Rat.num_eq_zero]
set_option maxRecDepth 100000 in
set_option maxHeartbeats 4000000 in
theorem pf_n_Add (L L2 : Nat → Prop) (x y : FracA) (va vb : Value) (w : World) (hL : Up w L) (h1 : IsFracA L2 w va x) (h2 : IsFracA L2 w vb y) :
    Calls Try.prog 19 #[va, vb] w (ResPost L (opR (fun a b => outR (a + b)) x y) w) := by
  have hx0 := h1
  have hy0 := h2
  obtain ⟨A, c, B, d, rfl, p1, p2⟩ := h1
  obtain ⟨A2, c2, B2, d2, rfl, q1, q2⟩ := h2
  obtain ⟨W0, hW0, hsz, hle, k0, k1, k2⟩ := new3_le w (.cells #[.bool x.sn, .slice A x.gn.length c, .bool x.sd, .slice B x.gd.length d] 26) (.cells #[.bool y.sn, .slice A2 y.gn.length c2, .bool y.sd, .slice B2 y.gd.length d2] 26) (.cells #[.bool false, .slice none 0 0, .bool false, .slice none 0 0] 26)
  have r1 := pf_n_both L L2 x y _ _ W0 (hL.le hle) (hx0.le hle) (hy0.le hle)
  obtain ⟨z0, z1, z2, z3⟩ := cells4 k0
  obtain ⟨y0, y1, y2, y3⟩ := cells4 k1
  have hL' := Lib.hid hL
  have hx0' := Lib.hid hx0
  have hy0' := Lib.hid hy0
  have p1' := Lib.hid p1
  have p2' := Lib.hid p2
  have q1' := Lib.hid q1
  have q2' := Lib.hid q2
  have hle' := Lib.hid hle
  have k0' := Lib.hid k0
  have k1' := Lib.hid k1
  have k2' := Lib.hid k2
  have r1' := Lib.hid r1
  clear r1 k2 k1 k0 hle q2 q1 p2 p1 hy0 hx0 hL
  go_enter Try.func19, Try.ntmps19
  go_wp2_with (fail)
  clear hW0
  go_at_call 38
  refine r1'.out.mono ?_
  rintro e W1 ⟨hle1, v1, v2, rfl, ⟨s1, Q1, n1, e1, Q2, n2, e2, rfl⟩, ⟨s2, Q3, n3, e3, Q4, n4, e4, rfl⟩, hrx, hry⟩
  obtain ⟨bb, hbb⟩ : ∃ bb, (okA x && okA y) = bb := ⟨_, rfl⟩
  rw [hbb]
  clear z0 z1 z2 z3 y0 y1 y2 y3 r1'
  obtain ⟨W2, hW2, hsz2, hle2, kx, ky⟩ := new2_le W1 (.cells #[.bool s1, .slice Q1 n1 e1, .slice Q2 n2 e2] 65) (.cells #[.bool s2, .slice Q3 n3 e3, .slice Q4 n4 e4] 65)
  have hl12 := hle1.trans hle2
  have hall := hle'.out.trans hl12
  obtain ⟨x0, x1, x2, -⟩ := cells3 kx
  obtain ⟨y0, y1, y2, -⟩ := cells3 ky
  have hU2 := hL'.out.le hall
  have k2b := (hl12.block _ (by omega)).trans k2'.out
  obtain ⟨f0, f1, f2, f3⟩ := cells4 k2b
  have g0 := frozen00 k2b 0
  have g1 := frozen00 k2b 1
  have g2 := frozen00 k2b 2
  have g3 := frozen00 k2b 3
  have hle1' := Lib.hid hle1
  have hle2' := Lib.hid hle2
  have hl12' := Lib.hid hl12
  have hall' := Lib.hid hall
  have kx' := Lib.hid kx
  have ky' := Lib.hid ky
  have hU2' := Lib.hid hU2
  have hrx' := Lib.hid hrx
  have hry' := Lib.hid hry
  have hbb' := Lib.hid hbb
  have k2b' := Lib.hid k2b
  clear k2b hbb hry hrx hU2 ky kx hall hl12 hle2 hle1
  cases bb with
  | false =>
    have hno := opR_none (f := fun a b => outR (a + b)) hbb'.out
    have hno' := Lib.hid hno
    clear hno
    have hle9 := fun u0 u1 u2 u3 => le_set4 (u0 := u0) (u1 := u1) (u2 := u2) (u3 := u3) hall'.out (show w.heap.size ≤ w.heap.size + 1 + 1 by omega)
    have hb9 := fun u0 u1 u2 u3 => cells4 (heap_set4 (u0 := u0) (u1 := u1) (u2 := u2) (u3 := u3) k2b'.out)
    have hle9' := Lib.hid hle9
    have hb9' := Lib.hid hb9
    clear hb9 hle9
    go_wp2
    obtain ⟨d0, d1, d2, d3⟩ := hb9'.out (.bool false) (.slice none 0 0) (.bool false) (.slice none 0 0)
    exact bodyPost_ret (v := .tuple #[zeroF, .int .i64 10]) (by simp [results, Try.results19, go_sem, d0, d1, d2, d3, zeroF]) rfl ⟨hle9'.out _ _ _ _, _, _, rfl, by rw [hno'.out]; exact ⟨rfl, rfl⟩⟩
  | true =>
    obtain ⟨a, b, ha, hb⟩ := okA_both hbb'.out
    have hra := (hrx'.out a ha).le hle2'.out
    have hrb := (hry'.out b hb).le hle2'.out
    have hsa := FracA.sz ha
    have hsb := FracA.sz hb
    have ha' := Lib.hid ha
    have hb' := Lib.hid hb
    have hra' := Lib.hid hra
    have hrb' := Lib.hid hrb
    have hsa' := Lib.hid hsa
    have hsb' := Lib.hid hsb
    clear hsb hsa hrb hra hb ha
    have hop := opR_some (f := fun a b => outR (a + b)) ha'.out hb'.out
    have hop' := Lib.hid hop
    clear hop
    go_wp2_with (fail)
    go_at_call 62
    refine (pf_q_plus L a b _ _ W2 hU2'.out hra'.out hrb'.out (hsa'.out.up (by decide)) (hsb'.out.up (by decide))).mono ?_
    rintro e W3 ⟨v3, rfl, hle3, hr3⟩
    have hr30 := hr3
    obtain ⟨A3, c3, A4, c4, rfl, -, -⟩ := hr3.form
    have hl3 := hall'.out.trans hle3
    have hU3 := hL'.out.le hl3
    have k2c := (hle3.block _ (Array.getElem?_eq_some_iff.1 k2b'.out).1).trans k2b'.out
    clear f0 f1 f2 f3 g0 g1 g2 g3
    have hle3' := Lib.hid hle3
    have hr3' := Lib.hid hr3
    have hr30' := Lib.hid hr30
    have hl3' := Lib.hid hl3
    have hU3' := Lib.hid hU3
    have k2c' := Lib.hid k2c
    clear k2c hU3 hl3 hr30 hr3 hle3
    go_wp2_with (fail)
    go_at_call 55
    refine (pf_n_Out L L _ _ W3 hU3'.out hr3'.out).mono ?_
    rintro e W4 hout
    obtain ⟨hle4, v4, c4, rfl, hres⟩ := hout.res
    obtain ⟨s5, A5, n5, c5, s6, A6, n6, c6, rfl⟩ := hres.form
    have k2d := (hle4.block _ (Array.getElem?_eq_some_iff.1 k2c'.out).1).trans k2c'.out
    have hle9 := fun u0 u1 u2 u3 => le_set4 (u0 := u0) (u1 := u1) (u2 := u2) (u3 := u3) (hl3'.out.trans hle4) (show w.heap.size ≤ w.heap.size + 1 + 1 by omega)
    have hb9 := fun u0 u1 u2 u3 => cells4 (heap_set4 (u0 := u0) (u1 := u1) (u2 := u2) (u3 := u3) k2d)
    have hfin := fun u0 u1 u2 u3 => IsRes.box4 (u0 := u0) (u1 := u1) (u2 := u2) (u3 := u3) hres k2d
    obtain ⟨f0, f1, f2, f3⟩ := cells4 k2d
    have g0 := frozen00 k2d 0
    have g1 := frozen00 k2d 1
    have g2 := frozen00 k2d 2
    have g3 := frozen00 k2d 3
    have hout' := Lib.hid hout
    have hle4' := Lib.hid hle4
    have hres' := Lib.hid hres
    have k2d' := Lib.hid k2d
    have hle9' := Lib.hid hle9
    have hb9' := Lib.hid hb9
    have hfin' := Lib.hid hfin
    clear hfin hb9 hle9 k2d hres hle4 hout
    go_wp2
    obtain ⟨d0, d1, d2, d3⟩ := hb9'.out (.bool s5) (.slice A5 n5 c5) (.bool s6) (.slice A6 n6 c6)
    exact bodyPost_ret (v := .tuple #[.agg #[.bool s5, .slice A5 n5 c5, .bool s6, .slice A6 n6 c6], .int .i64 c4]) (by simp [results, Try.results19, go_sem, d0, d1, d2, d3]) rfl ⟨hle9'.out _ _ _ _, _, _, rfl, by rw [hop'.out]; exact hfin'.out _ _ _ _⟩
set_option maxRecDepth 100000 in
set_option maxHeartbeats 4000000 in
theorem pf_n_Mul (L L2 : Nat → Prop) (x y : FracA) (va vb : Value) (w : World) (hL : Up w L) (h1 : IsFracA L2 w va x) (h2 : IsFracA L2 w vb y) :
    Calls Try.prog 23 #[va, vb] w (ResPost L (opR (fun a b => outR (a * b)) x y) w) := by
  have hx0 := h1
  have hy0 := h2
  obtain ⟨A, c, B, d, rfl, p1, p2⟩ := h1
  obtain ⟨A2, c2, B2, d2, rfl, q1, q2⟩ := h2
  obtain ⟨W0, hW0, hsz, hle, k0, k1, k2⟩ := new3_le w (.cells #[.bool x.sn, .slice A x.gn.length c, .bool x.sd, .slice B x.gd.length d] 26) (.cells #[.bool y.sn, .slice A2 y.gn.length c2, .bool y.sd, .slice B2 y.gd.length d2] 26) (.cells #[.bool false, .slice none 0 0, .bool false, .slice none 0 0] 26)
  have r1 := pf_n_both L L2 x y _ _ W0 (hL.le hle) (hx0.le hle) (hy0.le hle)
  obtain ⟨z0, z1, z2, z3⟩ := cells4 k0
  obtain ⟨y0, y1, y2, y3⟩ := cells4 k1
  have hL' := Lib.hid hL
  have hx0' := Lib.hid hx0
  have hy0' := Lib.hid hy0
  have p1' := Lib.hid p1
  have p2' := Lib.hid p2
  have q1' := Lib.hid q1
  have q2' := Lib.hid q2
  have hle' := Lib.hid hle
  have k0' := Lib.hid k0
  have k1' := Lib.hid k1
  have k2' := Lib.hid k2
  have r1' := Lib.hid r1
  clear r1 k2 k1 k0 hle q2 q1 p2 p1 hy0 hx0 hL
  go_enter Try.func23, Try.ntmps23
  go_wp2_with (fail)
  clear hW0
  go_at_call 38
  refine r1'.out.mono ?_
  rintro e W1 ⟨hle1, v1, v2, rfl, ⟨s1, Q1, n1, e1, Q2, n2, e2, rfl⟩, ⟨s2, Q3, n3, e3, Q4, n4, e4, rfl⟩, hrx, hry⟩
  obtain ⟨bb, hbb⟩ : ∃ bb, (okA x && okA y) = bb := ⟨_, rfl⟩
  rw [hbb]
  clear z0 z1 z2 z3 y0 y1 y2 y3 r1'
  obtain ⟨W2, hW2, hsz2, hle2, kx, ky⟩ := new2_le W1 (.cells #[.bool s1, .slice Q1 n1 e1, .slice Q2 n2 e2] 65) (.cells #[.bool s2, .slice Q3 n3 e3, .slice Q4 n4 e4] 65)
  have hl12 := hle1.trans hle2
  have hall := hle'.out.trans hl12
  obtain ⟨x0, x1, x2, -⟩ := cells3 kx
  obtain ⟨y0, y1, y2, -⟩ := cells3 ky
  have hU2 := hL'.out.le hall
  have k2b := (hl12.block _ (by omega)).trans k2'.out
  obtain ⟨f0, f1, f2, f3⟩ := cells4 k2b
  have g0 := frozen00 k2b 0
  have g1 := frozen00 k2b 1
  have g2 := frozen00 k2b 2
  have g3 := frozen00 k2b 3
  have hle1' := Lib.hid hle1
  have hle2' := Lib.hid hle2
  have hl12' := Lib.hid hl12
  have hall' := Lib.hid hall
  have kx' := Lib.hid kx
  have ky' := Lib.hid ky
  have hU2' := Lib.hid hU2
  have hrx' := Lib.hid hrx
  have hry' := Lib.hid hry
  have hbb' := Lib.hid hbb
  have k2b' := Lib.hid k2b
  clear k2b hbb hry hrx hU2 ky kx hall hl12 hle2 hle1
  cases bb with
  | false =>
    have hno := opR_none (f := fun a b => outR (a * b)) hbb'.out
    have hno' := Lib.hid hno
    clear hno
    have hle9 := fun u0 u1 u2 u3 => le_set4 (u0 := u0) (u1 := u1) (u2 := u2) (u3 := u3) hall'.out (show w.heap.size ≤ w.heap.size + 1 + 1 by omega)
    have hb9 := fun u0 u1 u2 u3 => cells4 (heap_set4 (u0 := u0) (u1 := u1) (u2 := u2) (u3 := u3) k2b'.out)
    have hle9' := Lib.hid hle9
    have hb9' := Lib.hid hb9
    clear hb9 hle9
    go_wp2
    obtain ⟨d0, d1, d2, d3⟩ := hb9'.out (.bool false) (.slice none 0 0) (.bool false) (.slice none 0 0)
    exact bodyPost_ret (v := .tuple #[zeroF, .int .i64 10]) (by simp [results, Try.results23, go_sem, d0, d1, d2, d3, zeroF]) rfl ⟨hle9'.out _ _ _ _, _, _, rfl, by rw [hno'.out]; exact ⟨rfl, rfl⟩⟩
  | true =>
    obtain ⟨a, b, ha, hb⟩ := okA_both hbb'.out
    have hra := (hrx'.out a ha).le hle2'.out
    have hrb := (hry'.out b hb).le hle2'.out
    have hsa := FracA.sz ha
    have hsb := FracA.sz hb
    have ha' := Lib.hid ha
    have hb' := Lib.hid hb
    have hra' := Lib.hid hra
    have hrb' := Lib.hid hrb
    have hsa' := Lib.hid hsa
    have hsb' := Lib.hid hsb
    clear hsb hsa hrb hra hb ha
    have hop := opR_some (f := fun a b => outR (a * b)) ha'.out hb'.out
    have hop' := Lib.hid hop
    clear hop
    go_wp2_with (fail)
    go_at_call 65
    refine (pf_q_times L a b _ _ W2 hU2'.out hra'.out hrb'.out (hsa'.out.up (by decide)) (hsb'.out.up (by decide))).mono ?_
    rintro e W3 ⟨v3, rfl, hle3, hr3⟩
    have hr30 := hr3
    obtain ⟨A3, c3, A4, c4, rfl, -, -⟩ := hr3.form
    have hl3 := hall'.out.trans hle3
    have hU3 := hL'.out.le hl3
    have k2c := (hle3.block _ (Array.getElem?_eq_some_iff.1 k2b'.out).1).trans k2b'.out
    clear f0 f1 f2 f3 g0 g1 g2 g3
    have hle3' := Lib.hid hle3
    have hr3' := Lib.hid hr3
    have hr30' := Lib.hid hr30
    have hl3' := Lib.hid hl3
    have hU3' := Lib.hid hU3
    have k2c' := Lib.hid k2c
    clear k2c hU3 hl3 hr30 hr3 hle3
    go_wp2_with (fail)
    go_at_call 55
    refine (pf_n_Out L L _ _ W3 hU3'.out hr3'.out).mono ?_
    rintro e W4 hout
    obtain ⟨hle4, v4, c4, rfl, hres⟩ := hout.res
    obtain ⟨s5, A5, n5, c5, s6, A6, n6, c6, rfl⟩ := hres.form
    have k2d := (hle4.block _ (Array.getElem?_eq_some_iff.1 k2c'.out).1).trans k2c'.out
    have hle9 := fun u0 u1 u2 u3 => le_set4 (u0 := u0) (u1 := u1) (u2 := u2) (u3 := u3) (hl3'.out.trans hle4) (show w.heap.size ≤ w.heap.size + 1 + 1 by omega)
    have hb9 := fun u0 u1 u2 u3 => cells4 (heap_set4 (u0 := u0) (u1 := u1) (u2 := u2) (u3 := u3) k2d)
    have hfin := fun u0 u1 u2 u3 => IsRes.box4 (u0 := u0) (u1 := u1) (u2 := u2) (u3 := u3) hres k2d
    obtain ⟨f0, f1, f2, f3⟩ := cells4 k2d
    have g0 := frozen00 k2d 0
    have g1 := frozen00 k2d 1
    have g2 := frozen00 k2d 2
    have g3 := frozen00 k2d 3
    have hout' := Lib.hid hout
    have hle4' := Lib.hid hle4
    have hres' := Lib.hid hres
    have k2d' := Lib.hid k2d
    have hle9' := Lib.hid hle9
    have hb9' := Lib.hid hb9
    have hfin' := Lib.hid hfin
    clear hfin hb9 hle9 k2d hres hle4 hout
    go_wp2
    obtain ⟨d0, d1, d2, d3⟩ := hb9'.out (.bool s5) (.slice A5 n5 c5) (.bool s6) (.slice A6 n6 c6)
    exact bodyPost_ret (v := .tuple #[.agg #[.bool s5, .slice A5 n5 c5, .bool s6, .slice A6 n6 c6], .int .i64 c4]) (by simp [results, Try.results23, go_sem, d0, d1, d2, d3]) rfl ⟨hle9'.out _ _ _ _, _, _, rfl, by rw [hop'.out]; exact hfin'.out _ _ _ _⟩
set_option maxRecDepth 100000 in
set_option maxHeartbeats 4000000 in
theorem pf_n_Div (L L2 : Nat → Prop) (x y : FracA) (va vb : Value) (w : World) (hL : Up w L) (h1 : IsFracA L2 w va x) (h2 : IsFracA L2 w vb y) :
    Calls Try.prog 25 #[va, vb] w (ResPost L (opR divE x y) w) := by
  have hx0 := h1
  have hy0 := h2
  obtain ⟨A, c, B, d, rfl, p1, p2⟩ := h1
  obtain ⟨A2, c2, B2, d2, rfl, q1, q2⟩ := h2
  obtain ⟨W0, hW0, hsz, hle, k0, k1, k2⟩ := new3_le w (.cells #[.bool x.sn, .slice A x.gn.length c, .bool x.sd, .slice B x.gd.length d] 26) (.cells #[.bool y.sn, .slice A2 y.gn.length c2, .bool y.sd, .slice B2 y.gd.length d2] 26) (.cells #[.bool false, .slice none 0 0, .bool false, .slice none 0 0] 26)
  have r1 := pf_n_both L L2 x y _ _ W0 (hL.le hle) (hx0.le hle) (hy0.le hle)
  obtain ⟨z0, z1, z2, z3⟩ := cells4 k0
  obtain ⟨y0, y1, y2, y3⟩ := cells4 k1
  have hL' := Lib.hid hL
  have hx0' := Lib.hid hx0
  have hy0' := Lib.hid hy0
  have p1' := Lib.hid p1
  have p2' := Lib.hid p2
  have q1' := Lib.hid q1
  have q2' := Lib.hid q2
  have hle' := Lib.hid hle
  have k0' := Lib.hid k0
  have k1' := Lib.hid k1
  have k2' := Lib.hid k2
  have r1' := Lib.hid r1
  clear r1 k2 k1 k0 hle q2 q1 p2 p1 hy0 hx0 hL
  go_enter Try.func25, Try.ntmps25
  go_wp2_with (fail)
  clear hW0
  go_at_call 38
  refine r1'.out.mono ?_
  rintro e W1 ⟨hle1, v1, v2, rfl, ⟨s1, Q1, n1, e1, Q2, n2, e2, rfl⟩, ⟨s2, Q3, n3, e3, Q4, n4, e4, rfl⟩, hrx, hry⟩
  obtain ⟨bb, hbb⟩ : ∃ bb, (okA x && okA y) = bb := ⟨_, rfl⟩
  rw [hbb]
  clear z0 z1 z2 z3 y0 y1 y2 y3 r1'
  obtain ⟨W2, hW2, hsz2, hle2, kx, ky⟩ := new2_le W1 (.cells #[.bool s1, .slice Q1 n1 e1, .slice Q2 n2 e2] 65) (.cells #[.bool s2, .slice Q3 n3 e3, .slice Q4 n4 e4] 65)
  have hl12 := hle1.trans hle2
  have hall := hle'.out.trans hl12
  obtain ⟨x0, x1, x2, -⟩ := cells3 kx
  obtain ⟨y0, y1, y2, -⟩ := cells3 ky
  have hU2 := hL'.out.le hall
  have k2b := (hl12.block _ (by omega)).trans k2'.out
  obtain ⟨f0, f1, f2, f3⟩ := cells4 k2b
  have g0 := frozen00 k2b 0
  have g1 := frozen00 k2b 1
  have g2 := frozen00 k2b 2
  have g3 := frozen00 k2b 3
  have hle1' := Lib.hid hle1
  have hle2' := Lib.hid hle2
  have hl12' := Lib.hid hl12
  have hall' := Lib.hid hall
  have kx' := Lib.hid kx
  have ky' := Lib.hid ky
  have hU2' := Lib.hid hU2
  have hrx' := Lib.hid hrx
  have hry' := Lib.hid hry
  have hbb' := Lib.hid hbb
  have k2b' := Lib.hid k2b
  clear k2b hbb hry hrx hU2 ky kx hall hl12 hle2 hle1
  cases bb with
  | false =>
    have hno := opR_none (f := divE) hbb'.out
    have hno' := Lib.hid hno
    clear hno
    have hle9 := fun u0 u1 u2 u3 => le_set4 (u0 := u0) (u1 := u1) (u2 := u2) (u3 := u3) hall'.out (show w.heap.size ≤ w.heap.size + 1 + 1 by omega)
    have hb9 := fun u0 u1 u2 u3 => cells4 (heap_set4 (u0 := u0) (u1 := u1) (u2 := u2) (u3 := u3) k2b'.out)
    have hle9' := Lib.hid hle9
    have hb9' := Lib.hid hb9
    clear hb9 hle9
    go_wp2
    obtain ⟨d0, d1, d2, d3⟩ := hb9'.out (.bool false) (.slice none 0 0) (.bool false) (.slice none 0 0)
    exact bodyPost_ret (v := .tuple #[zeroF, .int .i64 10]) (by simp [results, Try.results25, go_sem, d0, d1, d2, d3, zeroF]) rfl ⟨hle9'.out _ _ _ _, _, _, rfl, by rw [hno'.out]; exact ⟨rfl, rfl⟩⟩
  | true =>
    obtain ⟨a, b, ha, hb⟩ := okA_both hbb'.out
    have hra := (hrx'.out a ha).le hle2'.out
    have hrb := (hry'.out b hb).le hle2'.out
    have hsa := FracA.sz ha
    have hsb := FracA.sz hb
    have ha' := Lib.hid ha
    have hb' := Lib.hid hb
    have hra' := Lib.hid hra
    have hrb' := Lib.hid hrb
    have hsa' := Lib.hid hsa
    have hsb' := Lib.hid hsb
    clear hsb hsa hrb hra hb ha
    have hop := opR_some (f := divE) ha'.out hb'.out
    obtain ⟨sg9, hsg9⟩ : ∃ sg9, rsgn b = sg9 := ⟨_, rfl⟩
    have rs := pf_n_sign L b _ W2 hrb'.out
    rw [hsg9] at rs
    have hop' := Lib.hid hop
    have hsg9' := Lib.hid hsg9
    have rs' := Lib.hid rs
    clear rs hsg9 hop
    go_wp2_with (fail)
    go_at_call 67
    refine rs'.out.mono ?_
    rintro e W2b ⟨rfl, hleb⟩
    have hallb := hall'.out.trans hleb
    have hU2b := hL'.out.le hallb
    have k2bb := (hleb.block _ (Array.getElem?_eq_some_iff.1 k2b'.out).1).trans k2b'.out
    have kxb := (hleb.block _ (Array.getElem?_eq_some_iff.1 kx'.out).1).trans kx'.out
    have kyb := (hleb.block _ (Array.getElem?_eq_some_iff.1 ky'.out).1).trans ky'.out
    have hrab := hra'.out.le hleb
    have hrbb := hrb'.out.le hleb
    clear f0 f1 f2 f3 g0 g1 g2 g3 x0 x1 x2 y0 y1 y2 hall' hU2' k2b' kx' ky' hra' hrb' rs'
    obtain ⟨x0, x1, x2, -⟩ := cells3 kxb
    obtain ⟨y0, y1, y2, -⟩ := cells3 kyb
    obtain ⟨f0, f1, f2, f3⟩ := cells4 k2bb
    have g0 := frozen00 k2bb 0
    have g1 := frozen00 k2bb 1
    have g2 := frozen00 k2bb 2
    have g3 := frozen00 k2bb 3
    have hall' := Lib.hid hallb
    have hU2' := Lib.hid hU2b
    have k2b' := Lib.hid k2bb
    have hra' := Lib.hid hrab
    have hrb' := Lib.hid hrbb
    have hleb' := Lib.hid hleb
    have kxb' := Lib.hid kxb
    have kyb' := Lib.hid kyb
    clear kyb kxb hleb
    clear hallb hU2b k2bb hrab hrbb
    by_cases hb0 : b = 0
    · have h9 : sg9 = 0 := by rw [← hsg9'.out]; exact rsgn_zero.2 hb0
      have hdv : divE a b = .error 11 := by unfold divE; rw [if_pos hb0]
      subst h9
      have hdv' := Lib.hid hdv
      have hb0' := Lib.hid hb0
      clear hb0 hdv
      have hle9 := fun u0 u1 u2 u3 => le_set4 (u0 := u0) (u1 := u1) (u2 := u2) (u3 := u3) hall'.out (show w.heap.size ≤ w.heap.size + 1 + 1 by omega)
      have hb9 := fun u0 u1 u2 u3 => cells4 (heap_set4 (u0 := u0) (u1 := u1) (u2 := u2) (u3 := u3) k2b'.out)
      have hle9' := Lib.hid hle9
      have hb9' := Lib.hid hb9
      clear hb9 hle9
      go_wp2
      obtain ⟨d0, d1, d2, d3⟩ := hb9'.out (.bool false) (.slice none 0 0) (.bool false) (.slice none 0 0)
      exact bodyPost_ret (v := .tuple #[zeroF, .int .i64 11]) (by simp [results, Try.results25, go_sem, d0, d1, d2, d3, zeroF]) rfl ⟨hle9'.out _ _ _ _, _, _, rfl, by rw [hop'.out, hdv'.out]; exact ⟨rfl, rfl⟩⟩
    · have h9 : (sg9 == 0) = false := beq_eq_false_iff_ne.2 (fun h => hb0 (rsgn_zero.1 (hsg9'.out.trans h)))
      have h10 : ¬ sg9 = 0 := fun h => hb0 (rsgn_zero.1 (hsg9'.out.trans h))
      have hdv : divE a b = outR (a / b) := by unfold divE; rw [if_neg hb0]
      have hb0' := Lib.hid hb0
      clear hb0
      have hdv' := Lib.hid hdv
      clear hdv
      go_wp2_with (fail)
      go_at_call 68
      refine (pf_q_over L a b _ _ W2b hU2'.out hra'.out hrb'.out (hsa'.out.up (by decide)) (hsb'.out.up (by decide)) hb0'.out).mono ?_
      rintro e W3 ⟨v3, rfl, hle3, hr3⟩
      have hr30 := hr3
      obtain ⟨A3, c3, A4, c4, rfl, -, -⟩ := hr3.form
      have hl3 := hall'.out.trans hle3
      have hU3 := hL'.out.le hl3
      have k2c := (hle3.block _ (Array.getElem?_eq_some_iff.1 k2b'.out).1).trans k2b'.out
      clear f0 f1 f2 f3 g0 g1 g2 g3
      have hle3' := Lib.hid hle3
      have hr3' := Lib.hid hr3
      have hr30' := Lib.hid hr30
      have hl3' := Lib.hid hl3
      have hU3' := Lib.hid hU3
      have k2c' := Lib.hid k2c
      clear k2c hU3 hl3 hr30 hr3 hle3
      go_wp2_with (fail)
      go_at_call 55
      refine (pf_n_Out L L _ _ W3 hU3'.out hr3'.out).mono ?_
      rintro e W4 hout
      obtain ⟨hle4, v4, c4, rfl, hres⟩ := hout.res
      obtain ⟨s5, A5, n5, c5, s6, A6, n6, c6, rfl⟩ := hres.form
      have k2d := (hle4.block _ (Array.getElem?_eq_some_iff.1 k2c'.out).1).trans k2c'.out
      have hle9 := fun u0 u1 u2 u3 => le_set4 (u0 := u0) (u1 := u1) (u2 := u2) (u3 := u3) (hl3'.out.trans hle4) (show w.heap.size ≤ w.heap.size + 1 + 1 by omega)
      have hb9 := fun u0 u1 u2 u3 => cells4 (heap_set4 (u0 := u0) (u1 := u1) (u2 := u2) (u3 := u3) k2d)
      have hfin := fun u0 u1 u2 u3 => IsRes.box4 (u0 := u0) (u1 := u1) (u2 := u2) (u3 := u3) hres k2d
      obtain ⟨f0, f1, f2, f3⟩ := cells4 k2d
      have g0 := frozen00 k2d 0
      have g1 := frozen00 k2d 1
      have g2 := frozen00 k2d 2
      have g3 := frozen00 k2d 3
      have hout' := Lib.hid hout
      have hle4' := Lib.hid hle4
      have hres' := Lib.hid hres
      have k2d' := Lib.hid k2d
      have hle9' := Lib.hid hle9
      have hb9' := Lib.hid hb9
      have hfin' := Lib.hid hfin
      clear hfin hb9 hle9 k2d hres hle4 hout
      go_wp2
      obtain ⟨d0, d1, d2, d3⟩ := hb9'.out (.bool s5) (.slice A5 n5 c5) (.bool s6) (.slice A6 n6 c6)
      exact bodyPost_ret (v := .tuple #[.agg #[.bool s5, .slice A5 n5 c5, .bool s6, .slice A6 n6 c6], .int .i64 c4]) (by simp [results, Try.results25, go_sem, d0, d1, d2, d3]) rfl ⟨hle9'.out _ _ _ _, _, _, rfl, by rw [hop'.out, hdv'.out]; exact hfin'.out _ _ _ _⟩
set_option maxRecDepth 100000 in
set_option maxHeartbeats 4000000 in
theorem pf_n_Compare (L L2 : Nat → Prop) (x y : FracA) (va vb : Value) (w : World) (hL : Up w L) (h1 : IsFracA L2 w va x) (h2 : IsFracA L2 w vb y) :
    Calls Try.prog 8 #[va, vb] w fun e w' => e = .returned (.tuple #[.int .i64 (cmpV x y), .int .i64 (okE (okA x && okA y))]) ∧ Le w w' := by
  have hx0 := h1
  have hy0 := h2
  obtain ⟨A, c, B, d, rfl, p1, p2⟩ := h1
  obtain ⟨A2, c2, B2, d2, rfl, q1, q2⟩ := h2
  obtain ⟨cv, hcv⟩ : ∃ cv, cmpV x y = cv := ⟨_, rfl⟩
  obtain ⟨ev, hev⟩ : ∃ ev, okE (okA x && okA y) = ev := ⟨_, rfl⟩
  rw [hcv, hev]
  have hcv' := Lib.hid hcv
  have hev' := Lib.hid hev
  clear hcv hev
  obtain ⟨W0, hW0, hsz, hle, k0, k1⟩ := new2_le w (.cells #[.bool x.sn, .slice A x.gn.length c, .bool x.sd, .slice B x.gd.length d] 26) (.cells #[.bool y.sn, .slice A2 y.gn.length c2, .bool y.sd, .slice B2 y.gd.length d2] 26)
  have r1 := pf_n_both L L2 x y _ _ W0 (hL.le hle) (hx0.le hle) (hy0.le hle)
  obtain ⟨z0, z1, z2, z3⟩ := cells4 k0
  obtain ⟨y0, y1, y2, y3⟩ := cells4 k1
  have hL' := Lib.hid hL
  have hx0' := Lib.hid hx0
  have hy0' := Lib.hid hy0
  have p1' := Lib.hid p1
  have p2' := Lib.hid p2
  have q1' := Lib.hid q1
  have q2' := Lib.hid q2
  have hle' := Lib.hid hle
  have k0' := Lib.hid k0
  have k1' := Lib.hid k1
  have r1' := Lib.hid r1
  clear r1 k1 k0 hle q2 q1 p2 p1 hy0 hx0 hL
  go_enter Try.func8, Try.ntmps8
  go_wp2_with (fail)
  clear hW0
  go_at_call 38
  refine r1'.out.mono ?_
  rintro e W1 ⟨hle1, v1, v2, rfl, ⟨s1, Q1, n1, e1, Q2, n2, e2, rfl⟩, ⟨s2, Q3, n3, e3, Q4, n4, e4, rfl⟩, hrx, hry⟩
  obtain ⟨bb, hbb⟩ : ∃ bb, (okA x && okA y) = bb := ⟨_, rfl⟩
  rw [hbb]
  clear z0 z1 z2 z3 y0 y1 y2 y3 r1'
  obtain ⟨W2, hW2, hsz2, hle2, kx, ky⟩ := new2_le W1 (.cells #[.bool s1, .slice Q1 n1 e1, .slice Q2 n2 e2] 65) (.cells #[.bool s2, .slice Q3 n3 e3, .slice Q4 n4 e4] 65)
  have hl12 := hle1.trans hle2
  have hall := hle'.out.trans hl12
  obtain ⟨x0, x1, x2, -⟩ := cells3 kx
  obtain ⟨y0, y1, y2, -⟩ := cells3 ky
  have hU2 := hL'.out.le hall
  have hle1' := Lib.hid hle1
  have hle2' := Lib.hid hle2
  have hl12' := Lib.hid hl12
  have hall' := Lib.hid hall
  have kx' := Lib.hid kx
  have ky' := Lib.hid ky
  have hU2' := Lib.hid hU2
  have hrx' := Lib.hid hrx
  have hry' := Lib.hid hry
  have hbb' := Lib.hid hbb
  clear hbb hry hrx hU2 ky kx hall hl12 hle2 hle1
  cases bb with
  | false =>
    have hno := cmpV_none hbb'.out
    have he : ev = 10 := by rw [← hev'.out, hbb'.out]; rfl
    have hc : cv = 0 := by rw [← hcv'.out, hno]
    subst he
    subst hc
    have hno' := Lib.hid hno
    clear hno
    go_wp2
    go_ret2
    exact ⟨rfl, hall'.out⟩
  | true =>
    obtain ⟨a, b, ha, hb⟩ := okA_both hbb'.out
    have hra := (hrx'.out a ha).le hle2'.out
    have hrb := (hry'.out b hb).le hle2'.out
    have hsa := FracA.sz ha
    have hsb := FracA.sz hb
    have ha' := Lib.hid ha
    have hb' := Lib.hid hb
    have hra' := Lib.hid hra
    have hrb' := Lib.hid hrb
    have hsa' := Lib.hid hsa
    have hsb' := Lib.hid hsb
    clear hsb hsa hrb hra hb ha
    have hop := cmpV_some ha'.out hb'.out
    have he : ev = 0 := by rw [← hev'.out, hbb'.out]; rfl
    have hc : rsgn (a - b) = cv := by rw [← hcv'.out, hop]
    subst he
    have ro := pf_n_Order L a b _ _ W2 hU2'.out hra'.out hrb'.out (hsa'.out.up (by decide)) (hsb'.out.up (by decide))
    rw [hc] at ro
    have hop' := Lib.hid hop
    have hc' := Lib.hid hc
    have ro' := Lib.hid ro
    clear ro hc hop
    go_wp2_with (fail)
    go_at_call 39
    refine ro'.out.mono ?_
    rintro e W3 ⟨rfl, hle3⟩
    have hl3 := hall'.out.trans hle3
    have hle3' := Lib.hid hle3
    have hl3' := Lib.hid hl3
    clear hl3 hle3
    go_wp2
    go_ret2
    exact ⟨rfl, hl3'.out⟩
set_option maxRecDepth 100000 in
set_option maxHeartbeats 4000000 in
theorem pf_n_Ratio (L : Nat → Prop) (n d : Int) (w : World) (hL : Up w L) (hn0 : -9223372036854775808 ≤ n) (hn1 : n ≤ 9223372036854775807) (hd0 : -9223372036854775808 ≤ d) (hd1 : d ≤ 9223372036854775807) :
    Calls Try.prog 12 #[.int .i64 n, .int .i64 d] w (ResPost L (ratioR n d) w) := by
  by_cases hz : d = 0
  · have hr : ratioR n d = .error 11 := by unfold ratioR; rw [if_pos hz]
    subst hz
    have hle := le_alloc w (.cells #[.bool false, .slice none 0 0, .bool false, .slice none 0 0] 26)
    have hr' := Lib.hid hr
    have hL' := Lib.hid hL
    have hle' := Lib.hid hle
    clear hle hL hr
    go_enter Try.func12, Try.ntmps12
    go_wp2
    exact bodyPost_ret (v := .tuple #[zeroF, .int .i64 11]) (by simp [results, Try.results12, go_sem, zeroF]) rfl ⟨hle'.out, _, _, rfl, by rw [hr'.out]; exact ⟨rfl, rfl⟩⟩
  · have hr : ratioR n d = outR ((n : Rat) / (d : Rat)) := by unfold ratioR; rw [if_neg hz]
    have hz1 : (d == 0) = false := beq_eq_false_iff_ne.2 hz
    have hr' := Lib.hid hr
    have hL' := Lib.hid hL
    clear hL hr
    go_enter Try.func12, Try.ntmps12
    go_wp2_with (fail)
    go_at_call 56
    refine (pf_n_Over L n d _ (hL'.out.le (le_alloc _ _)) hn0 hn1 hd0 hd1 hz).mono ?_
    rintro e W3 ⟨v3, rfl, hle3, hr3⟩
    obtain ⟨hl3, k2c⟩ := box_le hle3
    obtain ⟨R, hR⟩ : ∃ R, (n : Rat) / (d : Rat) = R := ⟨_, rfl⟩
    rw [hR] at hr3
    have hr30 := hr3
    obtain ⟨A3, c3, A4, c4, rfl, -, -⟩ := hr3.form
    have hU3 := hL'.out.le hl3
    have hle3' := Lib.hid hle3
    have hr3' := Lib.hid hr3
    have hr30' := Lib.hid hr30
    have hl3' := Lib.hid hl3
    have hU3' := Lib.hid hU3
    have k2c' := Lib.hid k2c
    have hR' := Lib.hid hR
    clear hR k2c hU3 hl3 hr30 hr3 hle3
    go_wp2_with (fail)
    go_at_call 55
    refine (pf_n_Out L L _ _ W3 hU3'.out hr3'.out).mono ?_
    rintro e W4 hout
    obtain ⟨hle4, v4, c4, rfl, hres⟩ := hout.res
    obtain ⟨s5, A5, n5, c5, s6, A6, n6, c6, rfl⟩ := hres.form
    have k2d := (hle4.block _ (Array.getElem?_eq_some_iff.1 k2c'.out).1).trans k2c'.out
    have hle9 := fun u0 u1 u2 u3 => le_set4 (u0 := u0) (u1 := u1) (u2 := u2) (u3 := u3) (hl3'.out.trans hle4) (Nat.le_refl _)
    have hb9 := fun u0 u1 u2 u3 => cells4 (heap_set4 (u0 := u0) (u1 := u1) (u2 := u2) (u3 := u3) k2d)
    have hfin := fun u0 u1 u2 u3 => IsRes.box4 (u0 := u0) (u1 := u1) (u2 := u2) (u3 := u3) hres k2d
    obtain ⟨f0, f1, f2, f3⟩ := cells4 k2d
    have g0 := frozen00 k2d 0
    have g1 := frozen00 k2d 1
    have g2 := frozen00 k2d 2
    have g3 := frozen00 k2d 3
    have hout' := Lib.hid hout
    have hle4' := Lib.hid hle4
    have hres' := Lib.hid hres
    have k2d' := Lib.hid k2d
    have hle9' := Lib.hid hle9
    have hb9' := Lib.hid hb9
    have hfin' := Lib.hid hfin
    clear hfin hb9 hle9 k2d hres hle4 hout
    go_wp2
    obtain ⟨d0, d1, d2, d3⟩ := hb9'.out (.bool s5) (.slice A5 n5 c5) (.bool s6) (.slice A6 n6 c6)
    exact bodyPost_ret (v := .tuple #[.agg #[.bool s5, .slice A5 n5 c5, .bool s6, .slice A6 n6 c6], .int .i64 c4]) (by simp [results, Try.results12, go_sem, d0, d1, d2, d3]) rfl ⟨hle9'.out _ _ _ _, _, _, rfl, by rw [hr'.out, hR'.out]; exact hfin'.out _ _ _ _⟩
end Go.Proofs.Ytemdemfknnkcaaa
