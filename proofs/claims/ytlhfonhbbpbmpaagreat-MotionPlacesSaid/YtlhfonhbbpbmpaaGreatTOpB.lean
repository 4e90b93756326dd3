/- exact, turning numbers: CheckTurn, Norm. exact, turning numbers: Around. -/
import Derived.Test.YtlhfonhbbpbmpaaGreatTOpA
import Derived.Test.YtlhfonhbbpbmpaaGreatNear
import Derived.Test.YtlhfonhbbpbmpaaGreatTrnA
namespace Go.Proofs.YtlhfonhbbpbmpaaGreat
set_option maxRecDepth 100000
set_option maxHeartbeats 4000000
open Go.RowKit Go.Shelf
set_option linter.unusedVariables false
set_option linter.unusedSimpArgs false
theorem qDu : qA7 Tryz.prog 41 := fun _ _ => by kernel_rfl
theorem qFz (x : FracA × FracA) (B : Nat) (w : World) (hx : ABox w B x) (r : G2) (hr : tval x = some r) : Calls Tryz.prog 41 #[.pointer (some ⟨B, 0, none⟩)] w fun e w' => ∃ v, e = .returned v ∧ Le w w' ∧ qGW v := by
 obtain ⟨W0, hW0, hle, k0⟩ := al1 w (.cells #[.bool false, .slice none 0 0, .slice none 0 0, .bool false, .slice none 0 0, .slice none 0 0] 89)
 have hx1 := hx.le hle
 obtain ⟨x1A, x1c, x1B, x1d, x2A, x2c, x2B, x2d, kx, hx2, hx3⟩ := hx1
 obtain ⟨ca0, ca1, ca2, ca3, ca4, ca5, ca6, ca7⟩ := qAB kx
 have hin := qBZ x r _ W0 (IsTurnA.mk hx2 hx3) hr
 have ⟨hx', hle', k0', kx', hx2', hx3', hin', hr'⟩ := hyd8 hx hle k0 kx hx2 hx3 hin hr
 clear hr hin hx3 hx2 kx k0 hle hx
 go_enter Tryz.func41, Tryz.ntmps41
 go_wp2_with (fail)
 clear hW0
 go_at_call 42
 refine hin'.out.mono ?_
 rintro e W1 ⟨v1, rfl, hle1, h1⟩
 obtain ⟨rs1, rA1, rn1, rc1, rB1, rm1, rd1, rs2, rA2, rn2, rc2, rB2, rm2, rd2, rfl, y1, y2⟩ := h1
 have k1 := bxl hle1 k0'.out
 have hl1 := hle'.out.trans hle1
 have ⟨hle1', hl1', y1', y2'⟩ := hyd4 hle1 hl1 y1 y2
 clear y2 y1 hl1 hle1
 obtain ⟨z0, z1, z2, z3, z4, z5⟩ := qAC k1
 have ⟨g0, g1, g2, g3, g4, g5⟩ := frz6 k1
 have hle9 := fun u0 u1 u2 u3 u4 u5 => qAh (hl1'.out) (show w.heap.size ≤ w.heap.size by omega) u0 u1 u2 u3 u4 u5
 have hb9 := fun u0 u1 u2 u3 u4 u5 => qAC (qAZ k1 u0 u1 u2 u3 u4 u5)
 simp only [set6] at hb9
 have hfin := fun u0 u1 u2 u3 u4 u5 => And.intro (y1'.out.touch (qAN k1) (qAE W1 (w.heap.size) u0 u1 u2 u3 u4 u5)) (y2'.out.touch (qAN k1) (qAE W1 (w.heap.size) u0 u1 u2 u3 u4 u5))
 have ⟨hle9', hb9', hfin', k1'⟩ := hyd4 hle9 hb9 hfin k1
 clear k1 hfin hb9 hle9
 go_wp2
 obtain ⟨d0, d1, d2, d3, d4, d5⟩ := hb9'.out (.bool rs1) (.slice rA1 rn1 rc1) (.slice rB1 rm1 rd1) (.bool rs2) (.slice rA2 rn2 rc2) (.slice rB2 rm2 rd2)
 exact bodyPost_ret (v := .agg #[.bool rs1, .slice rA1 rn1 rc1, .slice rB1 rm1 rd1, .bool rs2, .slice rA2 rn2 rc2, .slice rB2 rm2 rd2]) (by simp [results, Tryz.results41, go_sem, d0, d1, d2, d3, d4, d5]) rfl ⟨_, rfl, hle9'.out _ _ _ _ _ _, _, _, _, _, _, _, _, _, _, _, _, _, _, _, rfl⟩
theorem qGA (x : FracA × FracA) (B : Nat) (w : World) (hx : ABox w B x) (hr : tval x = none) : Calls Tryz.prog 41 #[.pointer (some ⟨B, 0, none⟩)] w fun e w' => e = .panicked (flt 10) ∧ Le w w' := by
 obtain ⟨W0, hW0, hle, k0⟩ := al1 w (.cells #[.bool false, .slice none 0 0, .slice none 0 0, .bool false, .slice none 0 0, .slice none 0 0] 89)
 have hx1 := hx.le hle
 obtain ⟨x1A, x1c, x1B, x1d, x2A, x2c, x2B, x2d, kx, hx2, hx3⟩ := hx1
 obtain ⟨ca0, ca1, ca2, ca3, ca4, ca5, ca6, ca7⟩ := qAB kx
 have hin := qCX x _ W0 (IsTurnA.mk hx2 hx3) hr
 have ⟨hx', hle', k0', kx', hx2', hx3', hin', hr'⟩ := hyd8 hx hle k0 kx hx2 hx3 hin hr
 clear hr hin hx3 hx2 kx k0 hle hx
 go_enter Tryz.func41, Tryz.ntmps41
 go_wp2_with (fail)
 clear hW0
 go_at_call 42
 refine hin'.out.mono ?_
 rintro e W1 ⟨rfl, hle1⟩
 have hl1 := hle'.out.trans hle1
 have ⟨hle1', hl1'⟩ := hyd2 hle1 hl1
 clear hl1 hle1
 go_wp2_with (fail)
 exact ⟨rfl, rfl, hl1'.out⟩
theorem qFJ (x : FracA × FracA) (v : Value) (w : World) (hv : IsTurnA w v x) : Calls Tryz.prog 15 #[v] w fun e w' => e = .returned (.int .i64 (okE (tval x).isSome)) ∧ Le w w' := by
 obtain ⟨x1A, x1c, x1B, x1d, x2A, x2c, x2B, x2d, rfl, p1, p2⟩ := hv
 obtain ⟨W0, hW0, hle, k0⟩ := al1 w (.cells #[.bool x.1.sn, .slice x1A x.1.gn.length x1c, .bool x.1.sd, .slice x1B x.1.gd.length x1d, .bool x.2.sn, .slice x2A x.2.gn.length x2c, .bool x.2.sd, .slice x2B x.2.gd.length x2d] 29)
 have hbx : ABox W0 w.heap.size x := ⟨_, _, _, _, _, _, _, _, k0, p1.le hle, p2.le hle⟩
 have hmf : ∀ (fn : Fn) (first cap : Array Value) (w : World), (Instr.makeFunc fn first cap).run Tryz.prog w = .ok (.func fn first cap) w := fun _ _ _ _ => rfl
 rcases qBV x with ⟨r, hr⟩ | hr
 ·have he : okE (tval x).isSome = 0 := by rw [hr]; rfl
  rw [he]
  have hrun := qGz 41 #[.pointer (some ⟨w.heap.size, 0, none⟩)] W0 qDu fun W hW => qFz x w.heap.size W (hbx.le hW) r hr
  have ⟨hle', k0', hbx', p1', p2', hrun', hr', he'⟩ := hyd8 hle k0 hbx p1 p2 hrun hr he
  clear he hr hrun p2 p1 hbx k0 hle
  go_enter Tryz.func15, Tryz.ntmps15
  go_wp2_with (fail)
  clear hW0
  go_at_call 40
  refine hrun'.out.mono ?_
  rintro e W1 ⟨v1, rfl, hle1, ⟨rs1, rA1, rn1, rc1, rB1, rm1, rd1, rs2, rA2, rn2, rc2, rB2, rm2, rd2, rfl⟩⟩
  have hle2 := (hle'.out.trans hle1).trans (qAA W1 (.cells #[.bool rs1, .slice rA1 rn1 rc1, .slice rB1 rm1 rd1, .bool rs2, .slice rA2 rn2 rc2, .slice rB2 rm2 rd2] 89))
  have ⟨hle1', hle2'⟩ := hyd2 hle1 hle2
  clear hle2 hle1
  go_wp2
  go_ret
  exact ⟨rfl, hle2'.out⟩
 ·have he : okE (tval x).isSome = 10 := by rw [hr]; rfl
  rw [he]
  have hrun := qG3 10 41 #[.pointer (some ⟨w.heap.size, 0, none⟩)] W0 qDu fun W hW => qGA x w.heap.size W (hbx.le hW) hr
  have ⟨hle', k0', hbx', p1', p2', hrun', hr', he'⟩ := hyd8 hle k0 hbx p1 p2 hrun hr he
  clear he hr hrun p2 p1 hbx k0 hle
  go_enter Tryz.func15, Tryz.ntmps15
  go_wp2_with (fail)
  clear hW0
  go_at_call 40
  refine hrun'.out.mono ?_
  rintro e W1 ⟨rfl, hle1⟩
  have hle2 := (hle'.out.trans hle1).trans (qAA W1 (.cells #[.bool false, .slice none 0 0, .slice none 0 0, .bool false, .slice none 0 0, .slice none 0 0] 89))
  have ⟨hle1', hle2'⟩ := hyd2 hle1 hle2
  clear hle2 hle1
  go_wp2
  go_ret
  exact ⟨rfl, hle2'.out⟩
theorem qJC : qA7 Tryz.prog 44 := fun _ _ => by kernel_rfl
theorem qLH (x : FracA × FracA) (B : Nat) (w : World) (hx : ABox w B x) : Calls Tryz.prog 44 #[.pointer (some ⟨B, 0, none⟩)] w (OperPost (fun _ => True) (qEe x) w) := by
 obtain ⟨W0, hW0, hle, k0⟩ := al1 w (.cells #[.bool false, .slice none 0 0, .bool false, .slice none 0 0] 27)
 have hx1 := hx.le hle
 obtain ⟨x1A, x1c, x1B, x1d, x2A, x2c, x2B, x2d, kx, hx2, hx3⟩ := hx1
 obtain ⟨ca0, ca1, ca2, ca3, ca4, ca5, ca6, ca7⟩ := qAB kx
 rcases qBV x with ⟨r, hr⟩ | hr
 ·have hin := qBZ x r _ W0 (IsTurnA.mk hx2 hx3) hr
  have hnr := qGX hr
  have hsz := qDQ hr
  have ⟨hx', hle', k0', kx', hx2', hx3', hin', hr'⟩ := hyd8 hx hle k0 kx hx2 hx3 hin hr
  have ⟨hnr', hsz'⟩ := hyd2 hnr hsz
  clear hsz hnr hr hin hx3 hx2 kx k0 hle hx
  go_enter Tryz.func44, Tryz.ntmps44
  go_wp2_with (fail)
  clear hW0
  go_at_call 42
  refine hin'.out.mono ?_
  rintro e W1 ⟨v1, rfl, hle1, h1⟩
  have h0 := h1
  obtain ⟨rs1, rA1, rn1, rc1, rB1, rm1, rd1, rs2, rA2, rn2, rc2, rB2, rm2, rd2, rfl, -, -⟩ := h1
  have ⟨hle1', h0'⟩ := hyd2 hle1 h0
  clear h0 hle1
  go_wp2_with (fail)
  go_at_call 46
  refine (qI1 r _ W1 h0'.out (hsz'.out.up (by decide))).mono ?_
  rintro e W2 ⟨v2, rfl, hle2, h2⟩
  have h20 := h2
  obtain ⟨qs1, qA1, qn1, qc1, qB1, qm1, qd1, rfl⟩ := h2.qform
  have hl2 := (hle'.out.trans hle1'.out).trans hle2
  have k2 := bxl hle2 (bxl hle1'.out k0'.out)
  have ⟨hle2', h2', h20', hl2', k2'⟩ := hyd5 hle2 h2 h20 hl2 k2
  clear k2 hl2 h20 h2 hle2
  rcases Classical.em (Rsz (qAH r) 40) with hs | hs
  ·have hout := qEC (fun _ => True) (fun _ => True) (qAH r) _ W2 (Up.any _) h20'.out hs
   have ⟨hout', hs'⟩ := hyd2 hout hs
   clear hs hout
   go_wp2_with (fail)
   go_at_call 45
   refine hout'.out.mono ?_
   rintro e W8 ⟨v8, rfl, hle8, h8⟩
   obtain ⟨ps1, pA1, pn1, pc1, pt1, pB1, pm1, pd1, rfl⟩ := h8.fform
   have k8 := bxl hle8 k2'.out
   have hl8 := hl2'.out.trans hle8
   have ⟨hle8', h8', hl8'⟩ := hyd3 hle8 h8 hl8
   clear hl8 h8 hle8
   obtain ⟨z0, z1, z2, z3⟩ := qAM k8
   have ⟨g0, g1, g2, g3⟩ := frz4 k8
   have hle9 := fun u0 u1 u2 u3 => qCM (u0 := u0) (u1 := u1) (u2 := u2) (u3 := u3) (hl8'.out) (show w.heap.size ≤ w.heap.size by omega)
   have hb9 := fun u0 u1 u2 u3 => qAM (qBn (u0 := u0) (u1 := u1) (u2 := u2) (u3 := u3) k8)
   have hfin := fun u0 u1 u2 u3 => h8'.out.touch (qK7 k8) (qEd W8 (w.heap.size) u0 u1 u2 u3)
   have ⟨hle9', hb9', hfin', k8'⟩ := hyd4 hle9 hb9 hfin k8
   clear k8 hfin hb9 hle9
   go_wp2
   obtain ⟨d0, d1, d2, d3⟩ := hb9'.out (.bool ps1) (.slice pA1 pn1 pc1) (.bool pt1) (.slice pB1 pm1 pd1)
   exact bodyPost_ret (v := .agg #[.bool ps1, .slice pA1 pn1 pc1, .bool pt1, .slice pB1 pm1 pd1]) (by simp [results, Tryz.results44, go_sem, d0, d1, d2, d3]) rfl ⟨hle9'.out _ _ _ _, .inl ⟨_, _, by rw [hnr'.out, qJO hs'.out], rfl, hfin'.out _ _ _ _⟩⟩
  ·have hout := qFD (fun _ => True) (qAH r) _ W2 h20'.out hs
   have ⟨hout', hs'⟩ := hyd2 hout hs
   clear hs hout
   go_wp2_with (fail)
   go_at_call 45
   refine hout'.out.mono ?_
   rintro e W8 ⟨rfl, hle8⟩
   go_wp2_with (fail)
   exact ⟨rfl, hl2'.out.trans hle8, .inr ⟨12, by rw [hnr'.out, qJP hs'.out], rfl⟩⟩
 ·have hin := qCX x _ W0 (IsTurnA.mk hx2 hx3) hr
  have hnr := qJp hr
  have ⟨hx', hle', k0', kx', hx2', hx3', hin', hr'⟩ := hyd8 hx hle k0 kx hx2 hx3 hin hr
  have hnr' := hyd1 hnr
  clear hnr hr hin hx3 hx2 kx k0 hle hx
  go_enter Tryz.func44, Tryz.ntmps44
  go_wp2_with (fail)
  clear hW0
  go_at_call 42
  refine hin'.out.mono ?_
  rintro e W1 ⟨rfl, hle1⟩
  have hl1 := hle'.out.trans hle1
  have ⟨hle1', hl1'⟩ := hyd2 hle1 hl1
  clear hl1 hle1
  go_wp2_with (fail)
  exact ⟨rfl, hl1'.out, .inr ⟨10, hnr'.out, rfl⟩⟩
theorem qLd (x : FracA × FracA) (v : Value) (w : World) (hv : IsTurnA w v x) : Calls Tryz.prog 16 #[v] w (qJN (fun _ => True) (qEe x) w) := by
 obtain ⟨x1A, x1c, x1B, x1d, x2A, x2c, x2B, x2d, rfl, p1, p2⟩ := hv
 obtain ⟨W0, hW0, hsz, hle, k0, k1⟩ := qAQ w (.cells #[.bool x.1.sn, .slice x1A x.1.gn.length x1c, .bool x.1.sd, .slice x1B x.1.gd.length x1d, .bool x.2.sn, .slice x2A x.2.gn.length x2c, .bool x.2.sd, .slice x2B x.2.gd.length x2d] 29) (.cells #[.bool false, .slice none 0 0, .bool false, .slice none 0 0] 27)
 have hbx : ABox W0 w.heap.size x := ⟨_, _, _, _, _, _, _, _, k0, p1.le hle, p2.le hle⟩
 have hmf : ∀ (fn : Fn) (first cap : Array Value) (w : World), (Instr.makeFunc fn first cap).run Tryz.prog w = .ok (.func fn first cap) w := fun _ _ _ _ => rfl
 have hrun := qJA (fun _ => True) (qEe x) 44 #[.pointer (some ⟨w.heap.size, 0, none⟩)] W0 qJC fun W hW => qLH x w.heap.size W (hbx.le hW)
 have ⟨hle', k0', k1', hbx', p1', p2', hrun'⟩ := hyd7 hle k0 k1 hbx p1 p2 hrun
 clear hrun p2 p1 hbx k1 k0 hle
 go_enter Tryz.func16, Tryz.ntmps16
 go_wp2_with (fail)
 clear hW0
 go_at_call 43
 refine hrun'.out.mono ?_
 rintro e W1 ⟨hle1, v1, cc, rfl, hres⟩
 have hf0 := hres.form
 obtain ⟨rs1, rA1, rn1, rc1, rt1, rB1, rm1, rd1, rfl⟩ := hf0
 have k9 := bxl hle1 k1'.out
 have hl9 := hle'.out.trans hle1
 have ⟨hle1', hres', hl9'⟩ := hyd3 hle1 hres hl9
 clear hl9 hres hle1
 obtain ⟨z0, z1, z2, z3⟩ := qAM k9
 have ⟨g0, g1, g2, g3⟩ := frz4 k9
 have hle9 := fun u0 u1 u2 u3 => qCM (u0 := u0) (u1 := u1) (u2 := u2) (u3 := u3) (hl9'.out) (show w.heap.size ≤ w.heap.size + 1 by omega)
 have hb9 := fun u0 u1 u2 u3 => qAM (qBn (u0 := u0) (u1 := u1) (u2 := u2) (u3 := u3) k9)
 have hfin := fun u0 u1 u2 u3 => hres'.out.touch (qK7 k9) (qEd W1 (w.heap.size + 1) u0 u1 u2 u3)
 have ⟨hle9', hb9', hfin', k9'⟩ := hyd4 hle9 hb9 hfin k9
 clear k9 hfin hb9 hle9
 go_wp2
 obtain ⟨d0, d1, d2, d3⟩ := hb9'.out (.bool rs1) (.slice rA1 rn1 rc1) (.bool rt1) (.slice rB1 rm1 rd1)
 exact bodyPost_ret (v := .tuple #[.agg #[.bool rs1, .slice rA1 rn1 rc1, .bool rt1, .slice rB1 rm1 rd1], .int .i64 cc]) (by simp [results, Tryz.results16, go_sem, d0, d1, d2, d3]) rfl ⟨hle9'.out _ _ _ _, _, _, rfl, hfin'.out _ _ _ _⟩
theorem qHl : qA7 Tryz.prog 65 := fun _ _ => by kernel_rfl
theorem qJv (n d : Int) (Bn Bd : Nat) (t : TypeId) (w : World) (hn0 : -9223372036854775808 ≤ n) (hn1 : n ≤ 9223372036854775807) (hd0 : -9223372036854775808 ≤ d) (hd1 : d ≤ 9223372036854775807) (hnz : ¬ (n = 0 ∧ d = 0)) (kn : w.heap[Bn]? = some (.cells #[.int .i64 n] t)) (kd : w.heap[Bd]? = some (.cells #[.int .i64 d] t)) :
  Calls Tryz.prog 65 #[.pointer (some ⟨Bd, 0, none⟩), .pointer (some ⟨Bn, 0, none⟩)] w (OperPostT (outG (gdiv (ndG n d) (qAP (ndG n d)))) w) := by
 obtain ⟨W0, hW0, hle, k0⟩ := al1 w (.cells #[.bool false, .slice none 0 0, .bool false, .slice none 0 0, .bool false, .slice none 0 0, .bool false, .slice none 0 0] 29)
 have hbn := (gsl kn)
 have hbd := (gsl kd)
 have cn0 := qAF (bxl hle kn)
 have cd0 := qAF (bxl hle kd)
 have hs0 := hle.size
 have hsz := qK9 hn0 hn1 hd0 hd1
 have hnm := qFp hnz
 have ⟨hle', k0', kn', kd', hsz', hnm', hnz'⟩ := hyd7 hle k0 kn kd hsz hnm hnz
 clear hnz hnm hsz kd kn k0 hle
 go_enter Tryz.func65, Tryz.ntmps65
 go_wp2_with (fail)
 clear hW0
 refine qAG (R := leRel) 6 [some 4, some 5, some 6, some 7, some 8, some 3, none] [[], [0], [], [2], [1, 3], [], [4, 5]]
  [.eq (.int .i64 d), MPred.ratT .u32 ((d : Rat)), .eq (.int .i64 n), MPred.ratT .u32 ((n : Rat)), MPred.turn .u32 (ndG n d), MPred.box W0.heap.size (.cells #[.bool false, .slice none 0 0, .slice none 0 0, .bool false, .slice none 0 0, .slice none 0 0] 89)] (fun _ _ => False) (by kernel_rfl) (by kernel_rfl) (by kernel_rfl) (by kernel_rfl) ?_ (fun _ _ _ _ _ h => h.elim) ?_
 ·simp only [List.take_succ_cons, List.take_zero]
  refine mSc ?_ (mSc ?_ (mSc ?_ (mSc ?_ (mSc ?_ (mSc ?_ (qAJ))))))
  ·refine mSl rfl fun xv W hR hf Q hK hP => ?_
   have cc0 := bcl hR (by omega) cd0
   simp only [fA] at hK ⊢
   go_wp2
   exact hK _ _ lrR rfl
  ·refine mSl rfl fun xv W hR hf Q hK hP => ?_
   obtain ⟨e0, -⟩ := hf
   change _ = _ at e0
   simp only [fA, e0] at hK ⊢
   go_wp2_with (fail)
   go_at_call 52
   refine (qD0 (fun _ => True) d W (Up.any _) hd0 hd1).mono ?_
   rintro e w' ⟨v', rfl, y1, y2⟩
   obtain ⟨zs1, zA1, zn1, zc1, zB1, zm1, zd1, qz⟩ := y2.qform
   subst qz
   have y2' := hyd1 y2
   clear y2
   go_wp2
   exact hK _ _ y1 y2'.out
  ·refine mSl rfl fun xv W hR hf Q hK hP => ?_
   have cc0 := bcl hR (by omega) cn0
   simp only [fA] at hK ⊢
   go_wp2
   exact hK _ _ lrR rfl
  ·refine mSl rfl fun xv W hR hf Q hK hP => ?_
   obtain ⟨e0, -⟩ := hf
   change _ = _ at e0
   simp only [fA, e0] at hK ⊢
   go_wp2_with (fail)
   go_at_call 52
   refine (qD0 (fun _ => True) n W (Up.any _) hn0 hn1).mono ?_
   rintro e w' ⟨v', rfl, y1, y2⟩
   obtain ⟨zs1, zA1, zn1, zc1, zB1, zm1, zd1, qz⟩ := y2.qform
   subst qz
   have y2' := hyd1 y2
   clear y2
   go_wp2
   exact hK _ _ y1 y2'.out
  ·refine mSl rfl fun xv W hR hf Q hK hP => ?_
   obtain ⟨e0, e1, -⟩ := hf
   replace e0 : RatT .u32 W (xv 1) ((d : Rat)) := e0
   replace e1 : RatT .u32 W (xv 3) ((n : Rat)) := e1
   obtain ⟨u0s1, u0A1, u0n1, u0c1, u0B1, u0m1, u0d1, qu0⟩ := e0.qform
   rw [qu0] at e0
   obtain ⟨u1s1, u1A1, u1n1, u1c1, u1B1, u1m1, u1d1, qu1⟩ := e1.qform
   rw [qu1] at e1
   simp only [fA, qu0, qu1] at hK ⊢
   go_wp2
   exact hK _ _ lrR (TurnL.mk e0 e1)
  ·refine mSl rfl fun xv W hR hf Q hK hP => ?_
   simp only [fA] at hK ⊢
   have hs9 := hR.size
   go_wp2
   exact hK _ _ (qAA _ _) ⟨_, rfl, hs9, by unfold World.alloc; exact Array.getElem?_push_size⟩
 ·intro xv W hR hf Q' hQ1 _
  have e4 : TurnL .u32 W (xv 4) (ndG n d) := hf 4 (by decide)
  obtain ⟨k5, q5, hk5, hx5⟩ := hf 5 (by decide)
  replace q5 : xv 5 = _ := q5
  obtain ⟨ps1, pA1, pn1, pc1, pB1, pm1, pd1, ps2, pA2, pn2, pc2, pB2, pm2, pd2, qp, y1, y2⟩ := e4
  simp only [List.drop_succ_cons, List.drop_zero]
  rw [show List.range 6 = [0, 1, 2, 3, 4, 5] from rfl]
  simp only [fA, qp, q5]
  clear qp q5 hf
  obtain ⟨V, hV, hle1, l5, j1, j2⟩ : ∃ V, ((((((W.setCell ⟨k5, 0, none⟩ (.bool ps1)).setCell ⟨k5, 1, none⟩ (.slice pA1 pn1 pc1)).setCell ⟨k5, 2, none⟩ (.slice pB1 pm1 pd1)).setCell ⟨k5, 3, none⟩ (.bool ps2)).setCell ⟨k5, 4, none⟩ (.slice pA2 pn2 pc2)).setCell ⟨k5, 5, none⟩ (.slice pB2 pm2 pd2)) = V ∧ Le W0 V ∧ V.heap[k5]? = some (.cells #[.bool ps1, .slice pA1 pn1 pc1, .slice pB1 pm1 pd1, .bool ps2, .slice pA2 pn2 pc2, .slice pB2 pm2 pd2] 89) ∧ RatT .u32 V (.agg #[.bool ps1, .slice pA1 pn1 pc1, .slice pB1 pm1 pd1]) (ndG n d).1 ∧ RatT .u32 V (.agg #[.bool ps2, .slice pA2 pn2 pc2, .slice pB2 pm2 pd2]) (ndG n d).2 :=
   ⟨_, rfl, qAh hR hk5 _ _ _ _ _ _, qAZ hx5 _ _ _ _ _ _, y1.touch (qAN hx5) (qAE _ _ _ _ _ _ _ _), y2.touch (qAN hx5) (qAE _ _ _ _ _ _ _ _)⟩
  obtain ⟨z0, z1, z2, z3, z4, z5⟩ := qAC hx5
  have ⟨g0, g1, g2, g3, g4, g5⟩ := frz6 hx5
  obtain ⟨cp0, cp1, cp2, cp3, cp4, cp5⟩ := qAC l5
  have hl5 := (gsl l5)
  have k0V := bxl hle1 k0'.out
  have hl0 := (gsl k0V)
  have hleV := hle'.out.trans hle1
  have hv := TurnL.mk (g := ndG n d) j1 j2
  have ⟨hR', hle1', hx5', hk5', l5', j1', j2', y1'⟩ := hyd8 hR hle1 hx5 hk5 l5 j1 j2 y1
  have ⟨y2', k0V', hleV', hv'⟩ := hyd4 y2 k0V hleV hv
  clear hv hleV k0V y2 y1 j2 j1 l5 hk5 hx5 hle1 hR
  go_wp2
  clear z0 z1 z2 z3 z4 z5 g0 g1 g2 g3 g4 g5
  refine hQ1 _ _ ?_
  clear hV hQ1
  go_wp2_with (fail)
  refine qAG (R := leRel) 5 [some 9, some 10, some 11, some 12, some 13, none] [[], [], [1], [0, 2], [3], [4]]
   [.eq (.agg #[.bool ps1, .slice pA1 pn1 pc1, .slice pB1 pm1 pd1, .bool ps2, .slice pA2 pn2 pc2, .slice pB2 pm2 pd2]), .eq (.agg #[.bool ps1, .slice pA1 pn1 pc1, .slice pB1 pm1 pd1, .bool ps2, .slice pA2 pn2 pc2, .slice pB2 pm2 pd2]), MPred.turn .u32 (qAP (ndG n d)), MPred.turn .u32 (gdiv (ndG n d) (qAP (ndG n d))), MPred.turnFO (gdiv (ndG n d) (qAP (ndG n d)))] (fun ch W => ch = flt 12 ∧ ¬ TSz (gdiv (ndG n d) (qAP (ndG n d))) 40 ∧ Le V W) (by kernel_rfl) (by kernel_rfl) (by kernel_rfl) (by kernel_rfl) ?_ (by rintro a9 ch W hdf - ⟨rfl, hbad, hle9⟩; exact ⟨hdf, hleV'.out.trans hle9, .inr ⟨12, qC8 hbad, rfl⟩⟩) ?_
  ·simp only [List.take_succ_cons, List.take_zero]
   refine mSc ?_ (mSc ?_ (mSc ?_ (mSc ?_ (mSc ?_ (qAJ)))))
   ·refine mSl rfl fun xv W hR hf Q hK hP => ?_
    have cc0 := (Below.cell hR (p := ⟨k5, 0, none⟩) (by show k5 < V.heap.size; omega)).trans cp0
    have cc1 := (Below.cell hR (p := ⟨k5, 1, none⟩) (by show k5 < V.heap.size; omega)).trans cp1
    have cc2 := (Below.cell hR (p := ⟨k5, 2, none⟩) (by show k5 < V.heap.size; omega)).trans cp2
    have cc3 := (Below.cell hR (p := ⟨k5, 3, none⟩) (by show k5 < V.heap.size; omega)).trans cp3
    have cc4 := (Below.cell hR (p := ⟨k5, 4, none⟩) (by show k5 < V.heap.size; omega)).trans cp4
    have cc5 := (Below.cell hR (p := ⟨k5, 5, none⟩) (by show k5 < V.heap.size; omega)).trans cp5
    simp only [fA] at hK ⊢
    go_wp2
    exact hK _ _ lrR rfl
   ·refine mSl rfl fun xv W hR hf Q hK hP => ?_
    have cc0 := (Below.cell hR (p := ⟨k5, 0, none⟩) (by show k5 < V.heap.size; omega)).trans cp0
    have cc1 := (Below.cell hR (p := ⟨k5, 1, none⟩) (by show k5 < V.heap.size; omega)).trans cp1
    have cc2 := (Below.cell hR (p := ⟨k5, 2, none⟩) (by show k5 < V.heap.size; omega)).trans cp2
    have cc3 := (Below.cell hR (p := ⟨k5, 3, none⟩) (by show k5 < V.heap.size; omega)).trans cp3
    have cc4 := (Below.cell hR (p := ⟨k5, 4, none⟩) (by show k5 < V.heap.size; omega)).trans cp4
    have cc5 := (Below.cell hR (p := ⟨k5, 5, none⟩) (by show k5 < V.heap.size; omega)).trans cp5
    simp only [fA] at hK ⊢
    go_wp2
    exact hK _ _ lrR rfl
   ·refine mSl rfl fun xv W hR hf Q hK hP => ?_
    obtain ⟨e0, -⟩ := hf
    change _ = _ at e0
    simp only [fA, e0] at hK ⊢
    go_wp2_with (fail)
    go_at_call 68
    refine (qFI (ndG n d) _ W (hv'.out.le hR)).mono ?_
    rintro e w' ⟨v', rfl, y1, y2⟩
    obtain ⟨zs1, zA1, zn1, zc1, zB1, zm1, zd1, zs2, zA2, zn2, zc2, zB2, zm2, zd2, qz⟩ := y2.form
    subst qz
    have y2' := hyd1 y2
    clear y2
    go_wp2
    exact hK _ _ y1 y2'.out
   ·refine mSl rfl fun xv W hR hf Q hK hP => ?_
    obtain ⟨e0, e1, -⟩ := hf
    change _ = _ at e0
    replace e1 : TurnL .u32 W (xv 2) (qAP (ndG n d)) := e1
    simp only [fA, e0] at hK ⊢
    go_wp2_with (fail)
    go_at_call 67
    refine (qI2 (ndG n d) (qAP (ndG n d)) _ _ W (hv'.out.le hR) e1 (hsz'.out.up (by decide)) (qEb (hsz'.out.up (by decide))) hnm'.out).mono ?_
    rintro e w' ⟨v', rfl, y1, y2⟩
    obtain ⟨zs1, zA1, zn1, zc1, zB1, zm1, zd1, zs2, zA2, zn2, zc2, zB2, zm2, zd2, qz⟩ := y2.form
    subst qz
    have y2' := hyd1 y2
    clear y2
    go_wp2
    exact hK _ _ y1 y2'.out
   ·refine mSl rfl fun xv W hR hf Q hK hP => ?_
    obtain ⟨e0, -⟩ := hf
    replace e0 : TurnL .u32 W (xv 3) (gdiv (ndG n d) (qAP (ndG n d))) := e0
    simp only [fA] at hK ⊢
    rcases Classical.em (TSz (gdiv (ndG n d) (qAP (ndG n d))) 40) with hs | hs
    ·have hcall := qCl (gdiv (ndG n d) (qAP (ndG n d))) _ W e0 hs
     have ⟨hcall', hR', hs'⟩ := hyd3 hcall hR hs
     clear hs hR hcall
     go_wp2_with (fail)
     go_at_call 66
     refine hcall'.out.mono ?_
     rintro e w' ⟨v', rfl, y1, y2⟩
     have y3 := y2
     obtain ⟨zs1, zA1, zn1, zc1, zt1, zB1, zm1, zd1, zs2, zA2, zn2, zc2, zt2, zB2, zm2, zd2, qz, -, -⟩ := y3
     subst qz
     have y2' := hyd1 y2
     clear y2
     go_wp2
     exact hK _ _ y1 ⟨hs'.out, y2'.out⟩
    ·have hcall := qCm (gdiv (ndG n d) (qAP (ndG n d))) _ W e0 hs
     have ⟨hcall', hR', hs'⟩ := hyd3 hcall hR hs
     clear hs hR hcall
     go_wp2_with (fail)
     go_at_call 66
     refine hcall'.out.mono ?_
     rintro e w' ⟨rfl, y1⟩
     go_wp2_with (fail)
     exact hP _ _ _ (Le.trans hR'.out y1) ⟨rfl, hs'.out, hR'.out.trans y1⟩
  ·intro xv W hR hf Q' hQ1 _
   have eL : TSz (gdiv (ndG n d) (qAP (ndG n d))) 40 ∧ TurnF W (xv 4) (gdiv (ndG n d) (qAP (ndG n d))) := hf 4 (by decide)
   obtain ⟨hg, rs1, rA1, rn1, rc1, rt1, rB1, rm1, rd1, rs2, rA2, rn2, rc2, rt2, rB2, rm2, rd2, qL, y1, y2⟩ := eL
   have kW := (Below.block hR (w.heap.size) (by omega)).trans k0V'.out
   obtain ⟨z0, z1, z2, z3, z4, z5, z6, z7⟩ := qAB kW
   have ⟨g0, g1, g2, g3, g4, g5, g6, g7⟩ := frz8 kW
   simp only [List.drop_succ_cons, List.drop_zero]
   rw [show List.range 5 = [0, 1, 2, 3, 4] from rfl]
   simp only [fA, qL]
   have hle9 := fun u0 u1 u2 u3 u4 u5 u6 u7 => qAW (Le.trans hleV'.out hR) (show w.heap.size ≤ w.heap.size by omega) u0 u1 u2 u3 u4 u5 u6 u7
   have hb9 := fun u0 u1 u2 u3 u4 u5 u6 u7 => qAB (qAI kW u0 u1 u2 u3 u4 u5 u6 u7)
   simp only [set8] at hb9
   have hfin := fun u0 u1 u2 u3 u4 u5 u6 u7 => And.intro (y1.touch (qA9 kW) (qAL W (w.heap.size) u0 u1 u2 u3 u4 u5 u6 u7)) (y2.touch (qA9 kW) (qAL W (w.heap.size) u0 u1 u2 u3 u4 u5 u6 u7))
   have ⟨hle9', hb9', hfin', kW', y1', y2', qL', hR'⟩ := hyd8 hle9 hb9 hfin kW y1 y2 qL hR
   clear hR qL y2 y1 kW hfin hb9 hle9
   have hg' := hyd1 hg
   clear hg
   go_wp2
   refine hQ1 _ _ ?_
   go_wp2
   obtain ⟨d0, d1, d2, d3, d4, d5, d6, d7⟩ := hb9'.out (.bool rs1) (.slice rA1 rn1 rc1) (.bool rt1) (.slice rB1 rm1 rd1) (.bool rs2) (.slice rA2 rn2 rc2) (.bool rt2) (.slice rB2 rm2 rd2)
   exact bodyPost_ret (v := .agg #[.bool rs1, .slice rA1 rn1 rc1, .bool rt1, .slice rB1 rm1 rd1, .bool rs2, .slice rA2 rn2 rc2, .bool rt2, .slice rB2 rm2 rd2]) (by simp [results, Tryz.results65, go_sem, d0, d1, d2, d3, d4, d5, d6, d7]) rfl ⟨hle9'.out _ _ _ _ _ _ _ _, .inl ⟨_, _, qB8 hg'.out, rfl, TurnF.mk (hfin'.out _ _ _ _ _ _ _ _).1 (hfin'.out _ _ _ _ _ _ _ _).2⟩⟩
theorem qHb (n d : Int) (w : World) (hn0 : -9223372036854775808 ≤ n) (hn1 : n ≤ 9223372036854775807) (hd0 : -9223372036854775808 ≤ d) (hd1 : d ≤ 9223372036854775807) : Calls Tryz.prog 28 #[.int .i64 n, .int .i64 d] w (qAa (qAs n d) w) := by
 obtain ⟨W0, hW0, hsz, hle, k0, k1, k2⟩ := qAw w (.cells #[.int .i64 n] 3) (.cells #[.int .i64 d] 3) (.cells #[.bool false, .slice none 0 0, .bool false, .slice none 0 0, .bool false, .slice none 0 0, .bool false, .slice none 0 0] 29)
 have c0 := qAF k0
 have c1 := qAF k1
 have hmf : ∀ (fn : Fn) (first cap : Array Value) (w : World), (Instr.makeFunc fn first cap).run Tryz.prog w = .ok (.func fn first cap) w := fun _ _ _ _ => rfl
 by_cases hnz : n = 0 ∧ d = 0
 ·obtain ⟨rfl, rfl⟩ := hnz
  have har : qAs 0 0 = .error 11 := if_pos ⟨rfl, rfl⟩
  obtain ⟨a0, a1, a2, a3, a4, a5, a6, a7⟩ := qAB k2
  have ⟨g0, g1, g2, g3, g4, g5, g6, g7⟩ := frz8 k2
  have hle9 := qAW hle (show w.heap.size ≤ w.heap.size + 1 + 1 by omega) (.bool false) (.slice none 0 0) (.bool false) (.slice none 0 0) (.bool false) (.slice none 0 0) (.bool false) (.slice none 0 0)
  have hb9 := qAB (qAI k2 (.bool false) (.slice none 0 0) (.bool false) (.slice none 0 0) (.bool false) (.slice none 0 0) (.bool false) (.slice none 0 0))
  simp only [set8] at hb9
  have ⟨hle', k0', k1', k2', har', hle9', hb9'⟩ := hyd7 hle k0 k1 k2 har hle9 hb9
  clear hb9 hle9 har k2 k1 k0 hle
  go_enter Tryz.func28, Tryz.ntmps28
  go_wp2
  obtain ⟨d0, d1, d2, d3, d4, d5, d6, d7⟩ := hb9'.out
  exact bodyPost_ret (v := .tuple #[.agg #[.bool false, .slice none 0 0, .bool false, .slice none 0 0, .bool false, .slice none 0 0, .bool false, .slice none 0 0], .int .i64 11]) (by simp [results, Tryz.results28, go_sem, d0, d1, d2, d3, d4, d5, d6, d7]) rfl ⟨hle9'.out, _, _, rfl, by rw [har'.out]; exact ⟨rfl, rfl⟩⟩
 ·have har : qAs n d = outG (gdiv (ndG n d) (qAP (ndG n d))) := if_neg hnz
  have hrun := qDt (outG (gdiv (ndG n d) (qAP (ndG n d)))) 65 #[.pointer (some ⟨w.heap.size + 1, 0, none⟩), .pointer (some ⟨w.heap.size, 0, none⟩)] W0 qHl fun W hW => qJv n d _ _ _ W hn0 hn1 hd0 hd1 hnz (bxl hW k0) (bxl hW k1)
  rw [← har] at hrun
  have hcond : (decide (n = 0) && decide (d = 0)) = false := by rw [← Bool.decide_and]; exact decide_eq_false hnz
  have ⟨hle', k0', k1', k2', har', hrun'⟩ := hyd6 hle k0 k1 k2 har hrun
  clear hrun har k2 k1 k0 hle
  by_cases h0 : n = 0
  ·subst h0
   have h1 : ¬ d = 0 := fun h => hnz ⟨rfl, h⟩
   clear hnz hcond
   go_enter Tryz.func28, Tryz.ntmps28
   go_wp2_with (fail)
   clear hW0
   go_at_call 64
   refine hrun'.out.mono ?_
   rintro e W1 ⟨hle1, v1, cc, rfl, hres⟩
   have hres0 := hres
   obtain ⟨rs1, rA1, rn1, rc1, rt1, rB1, rm1, rd1, rs2, rA2, rn2, rc2, rt2, rB2, rm2, rd2, rfl⟩ := hres.form
   have k9 := bxl hle1 k2'.out
   have hl9 := hle'.out.trans hle1
   have ⟨hle1', hres', hres0', hl9'⟩ := hyd4 hle1 hres hres0 hl9
   clear hl9 hres0 hres hle1
   obtain ⟨z0, z1, z2, z3, z4, z5, z6, z7⟩ := qAB k9
   have ⟨g0, g1, g2, g3, g4, g5, g6, g7⟩ := frz8 k9
   have hle9 := fun u0 u1 u2 u3 u4 u5 u6 u7 => qAW (hl9'.out) (show w.heap.size ≤ w.heap.size + 1 + 1 by omega) u0 u1 u2 u3 u4 u5 u6 u7
   have hb9 := fun u0 u1 u2 u3 u4 u5 u6 u7 => qAB (qAI k9 u0 u1 u2 u3 u4 u5 u6 u7)
   simp only [set8] at hb9
   have hfin := fun u0 u1 u2 u3 u4 u5 u6 u7 => hres'.out.touch (qA9 k9) (qAL W1 (w.heap.size + 1 + 1) u0 u1 u2 u3 u4 u5 u6 u7)
   have ⟨hle9', hb9', hfin', k9'⟩ := hyd4 hle9 hb9 hfin k9
   clear k9 hfin hb9 hle9
   go_wp2
   obtain ⟨d0, d1, d2, d3, d4, d5, d6, d7⟩ := hb9'.out (.bool rs1) (.slice rA1 rn1 rc1) (.bool rt1) (.slice rB1 rm1 rd1) (.bool rs2) (.slice rA2 rn2 rc2) (.bool rt2) (.slice rB2 rm2 rd2)
   exact bodyPost_ret (v := .tuple #[.agg #[.bool rs1, .slice rA1 rn1 rc1, .bool rt1, .slice rB1 rm1 rd1, .bool rs2, .slice rA2 rn2 rc2, .bool rt2, .slice rB2 rm2 rd2], .int .i64 cc]) (by simp [results, Tryz.results28, go_sem, d0, d1, d2, d3, d4, d5, d6, d7]) rfl ⟨hle9'.out _ _ _ _ _ _ _ _, _, _, rfl, hfin'.out _ _ _ _ _ _ _ _⟩
  ·clear hnz hcond
   go_enter Tryz.func28, Tryz.ntmps28
   go_wp2_with (fail)
   clear hW0
   go_at_call 64
   refine hrun'.out.mono ?_
   rintro e W1 ⟨hle1, v1, cc, rfl, hres⟩
   have hres0 := hres
   obtain ⟨rs1, rA1, rn1, rc1, rt1, rB1, rm1, rd1, rs2, rA2, rn2, rc2, rt2, rB2, rm2, rd2, rfl⟩ := hres.form
   have k9 := bxl hle1 k2'.out
   have hl9 := hle'.out.trans hle1
   have ⟨hle1', hres', hres0', hl9'⟩ := hyd4 hle1 hres hres0 hl9
   clear hl9 hres0 hres hle1
   obtain ⟨z0, z1, z2, z3, z4, z5, z6, z7⟩ := qAB k9
   have ⟨g0, g1, g2, g3, g4, g5, g6, g7⟩ := frz8 k9
   have hle9 := fun u0 u1 u2 u3 u4 u5 u6 u7 => qAW (hl9'.out) (show w.heap.size ≤ w.heap.size + 1 + 1 by omega) u0 u1 u2 u3 u4 u5 u6 u7
   have hb9 := fun u0 u1 u2 u3 u4 u5 u6 u7 => qAB (qAI k9 u0 u1 u2 u3 u4 u5 u6 u7)
   simp only [set8] at hb9
   have hfin := fun u0 u1 u2 u3 u4 u5 u6 u7 => hres'.out.touch (qA9 k9) (qAL W1 (w.heap.size + 1 + 1) u0 u1 u2 u3 u4 u5 u6 u7)
   have ⟨hle9', hb9', hfin', k9'⟩ := hyd4 hle9 hb9 hfin k9
   clear k9 hfin hb9 hle9
   go_wp2
   obtain ⟨d0, d1, d2, d3, d4, d5, d6, d7⟩ := hb9'.out (.bool rs1) (.slice rA1 rn1 rc1) (.bool rt1) (.slice rB1 rm1 rd1) (.bool rs2) (.slice rA2 rn2 rc2) (.bool rt2) (.slice rB2 rm2 rd2)
   exact bodyPost_ret (v := .tuple #[.agg #[.bool rs1, .slice rA1 rn1 rc1, .bool rt1, .slice rB1 rm1 rd1, .bool rs2, .slice rA2 rn2 rc2, .bool rt2, .slice rB2 rm2 rd2], .int .i64 cc]) (by simp [results, Tryz.results28, go_sem, d0, d1, d2, d3, d4, d5, d6, d7]) rfl ⟨hle9'.out _ _ _ _ _ _ _ _, _, _, rfl, hfin'.out _ _ _ _ _ _ _ _⟩
end Go.Proofs.YtlhfonhbbpbmpaaGreat

