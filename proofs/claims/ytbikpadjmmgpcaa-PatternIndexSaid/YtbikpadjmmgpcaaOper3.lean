/- exact: FromInt, Ratio, Nearest. -/
import Derived.Test.YtbikpadjmmgpcaaNear
namespace Go.Proofs.Ytbikpadjmmgpcaa
open Go.RowKit Go.Shelf
set_option linter.unusedVariables false
set_option linter.unusedSimpArgs false
theorem int_sz (z : Int) (hz0 : -9223372036854775808 ≤ z) (hz1 : z ≤ 9223372036854775807) : Rsz (z : Rat) 3 :=
  ⟨dg_u64 (N := z.natAbs) (by omega), by rw [show (z : Rat).den = 1 from rfl, dg_one]; simp⟩
theorem over_sz {n d : Int} (hd : d ≠ 0) (hn0 : -9223372036854775808 ≤ n) (hn1 : n ≤ 9223372036854775807) (hd0 : -9223372036854775808 ≤ d) (hd1 : d ≤ 9223372036854775807) : Rsz ((n : Rat) / (d : Rat)) 40 :=
  (rsz_div (fun h => hd (by exact_mod_cast h)) (int_sz n hn0 hn1) (int_sz d hd0 hd1)).up (by decide)
theorem plain_Ratio1 : Plain Try.prog 23 := fun _ _ => by kernel_rfl
set_option maxRecDepth 100000 in
set_option maxHeartbeats 2000000 in
theorem pf_Ratio1 (L : Nat → Prop) (n d : Int) (Bn Bd : Nat) (t : TypeId) (w : World) (hL : Up w L) (hn0 : -9223372036854775808 ≤ n) (hn1 : n ≤ 9223372036854775807) (hd0 : -9223372036854775808 ≤ d) (hd1 : d ≤ 9223372036854775807) (hd : d ≠ 0)
    (kn : w.heap[Bn]? = some (.cells #[.int .i64 n] t)) (kd : w.heap[Bd]? = some (.cells #[.int .i64 d] t)) :
    Calls Try.prog 23 #[.pointer (some ⟨Bn, 0, none⟩), .pointer (some ⟨Bd, 0, none⟩)] w fun e w' => ∃ v, e = .returned v ∧ Le w w' ∧ FracL L w' v ((n : Rat) / (d : Rat)) := by
  have hsz := over_sz hd hn0 hn1 hd0 hd1
  obtain ⟨R, hR⟩ : ∃ R, (n : Rat) / (d : Rat) = R := ⟨_, rfl⟩
  rw [hR] at hsz ⊢
  obtain ⟨W0, hW0, hle, k0⟩ : ∃ W0, w.alloc (.cells #[.bool false, .slice none 0 0, .bool false, .slice none 0 0] 29) = W0 ∧ Le w W0 ∧ W0.heap[w.heap.size]? = some (.cells #[.bool false, .slice none 0 0, .bool false, .slice none 0 0] 29) := ⟨_, rfl, le_alloc _ _, by unfold World.alloc; exact Array.getElem?_push_size⟩
  have hnl := (Array.getElem?_eq_some_iff.1 kn).1
  have hdl := (Array.getElem?_eq_some_iff.1 kd).1
  have hkl := (Array.getElem?_eq_some_iff.1 k0).1
  have cn := cell00 ((hle.block _ hnl).trans kn)
  have cd := cell00 ((hle.block _ hdl).trans kd)
  have hU0 := hL.le hle
  have hs0 := hle.size
  have hdr : (d : Rat) ≠ 0 := fun h => hd (by exact_mod_cast h)
  have hnsz := int_sz n hn0 hn1
  have hdsz := int_sz d hd0 hd1
  have hL' := Lib.hid hL
  have hsz' := Lib.hid hsz
  have hR' := Lib.hid hR
  have hle' := Lib.hid hle
  have k0' := Lib.hid k0
  have kn' := Lib.hid kn
  have kd' := Lib.hid kd
  have hU0' := Lib.hid hU0
  have hdr' := Lib.hid hdr
  have hnsz' := Lib.hid hnsz
  have hdsz' := Lib.hid hdsz
  have hd' := Lib.hid hd
  clear hd hdsz hnsz hdr hU0 kd kn k0 hle hR hsz hL
  go_enter Try.func23, Try.ntmps23
  go_wp2_with (fail)
  clear hW0
  refine wp_region_monoT (R := leRel) 6 [some 3, some 4, some 5, some 6, some 7, some 8, none] [[], [0], [], [2], [1, 3], [4], [5]]
    [.eq (.int .i64 n), MPred.rat (fun _ => True) .u32 (n : Rat), .eq (.int .i64 d), MPred.rat (fun _ => True) .u32 (d : Rat), MPred.rat (fun _ => True) .u32 R, MPred.frac L R] (fun _ _ => False) (by kernel_rfl) (by kernel_rfl) (by kernel_rfl) (by kernel_rfl) (by kernel_rfl) ?_ (fun _ _ _ _ h => h.elim) ?_
  · simp only [List.take_succ_cons, List.take_zero]
    refine stepsM_cons rfl ?_ (stepsM_cons rfl ?_ (stepsM_cons rfl ?_ (stepsM_cons rfl ?_ (stepsM_cons rfl ?_ (stepsM_cons rfl ?_ (stepsG_nil))))))
    · intro x W hR hf Q hK _
      have cc := (Below.cell hR (p := ⟨Bn, 0, none⟩) (by show Bn < W0.heap.size; omega)).trans cn
      simp only [fillAct, List.getD_cons_succ, List.getD_cons_zero, Act.put, List.setIfInBounds_toArray, List.set_cons_succ, List.set_cons_zero] at hK ⊢
      go_wp2
      exact hK _ _ (leRel.refl _) rfl
    · intro x W hR hf Q hK _
      obtain ⟨e0, -⟩ := hf
      change _ = _ at e0
      simp only [fillAct, List.getD_cons_succ, List.getD_cons_zero, Act.put, List.setIfInBounds_toArray, List.set_cons_succ, List.set_cons_zero, e0] at hK ⊢
      go_wp2_with (fail)
      go_at_call 25
      refine (pf_number (fun _ => True) n W (Up.any _) hn0 hn1).mono ?_
      rintro e w' ⟨v', rfl, y1, y2⟩
      obtain ⟨A1, c1, A2, c2, e9, -, -⟩ := y2.form
      subst e9
      have y2' := Lib.hid y2
      clear y2
      go_wp2
      exact hK _ _ y1 y2'.out
    · intro x W hR hf Q hK _
      have cc := (Below.cell hR (p := ⟨Bd, 0, none⟩) (by show Bd < W0.heap.size; omega)).trans cd
      simp only [fillAct, List.getD_cons_succ, List.getD_cons_zero, Act.put, List.setIfInBounds_toArray, List.set_cons_succ, List.set_cons_zero] at hK ⊢
      go_wp2
      exact hK _ _ (leRel.refl _) rfl
    · intro x W hR hf Q hK _
      obtain ⟨e0, -⟩ := hf
      change _ = _ at e0
      simp only [fillAct, List.getD_cons_succ, List.getD_cons_zero, Act.put, List.setIfInBounds_toArray, List.set_cons_succ, List.set_cons_zero, e0] at hK ⊢
      go_wp2_with (fail)
      go_at_call 25
      refine (pf_number (fun _ => True) d W (Up.any _) hd0 hd1).mono ?_
      rintro e w' ⟨v', rfl, y1, y2⟩
      obtain ⟨A1, c1, A2, c2, e9, -, -⟩ := y2.form
      subst e9
      have y2' := Lib.hid y2
      clear y2
      go_wp2
      exact hK _ _ y1 y2'.out
    · intro x W hR hf Q hK _
      obtain ⟨e0, e1, -⟩ := hf
      replace e0 : RatL (fun _ => True) .u32 W (x 1) (n : Rat) := e0
      replace e1 : RatL (fun _ => True) .u32 W (x 3) (d : Rat) := e1
      simp only [fillAct, List.getD_cons_succ, List.getD_cons_zero, Act.put, List.setIfInBounds_toArray, List.set_cons_succ, List.set_cons_zero] at hK ⊢
      go_wp2_with (fail)
      go_at_call 26
      refine (pf_rover (fun _ => True) (n : Rat) (d : Rat) _ _ W (Up.any _) e0 e1 (hnsz'.out.up (by decide)) (hdsz'.out.up (by decide)) hdr'.out).mono ?_
      rintro e w' ⟨v', rfl, y1, y2⟩
      rw [hR'.out] at y2
      obtain ⟨A1, c1, A2, c2, rfl, -, -⟩ := y2.form
      go_wp2
      exact hK _ _ y1 y2
    · intro x W hR hf Q hK _
      obtain ⟨e0, -⟩ := hf
      replace e0 : RatL (fun _ => True) .u32 W (x 4) R := e0
      simp only [fillAct, List.getD_cons_succ, List.getD_cons_zero, Act.put, List.setIfInBounds_toArray, List.set_cons_succ, List.set_cons_zero] at hK ⊢
      go_wp2_with (fail)
      go_at_call 24
      refine (pf_out_ok L (fun _ => True) R _ W (hU0'.out.le hR) e0 hsz'.out).mono ?_
      rintro e w' ⟨v', rfl, y1, y2⟩
      have y3 := y2
      obtain ⟨A1, c1, A2, c2, rfl, -, -⟩ := y2
      go_wp2
      exact hK _ _ y1 y3
  · intro x W hR hf Q' hQ1 _
    have e0 := hf 0 (by decide)
    have e2 := hf 2 (by decide)
    change _ = _ at e0 e2
    have e5 : FracL L W (x 5) R := hf 5 (by decide)
    obtain ⟨A3, c3, A4, c4, e6, y3, y4⟩ := e5
    simp only [List.drop_succ_cons, List.drop_zero]
    rw [show List.range 6 = [0, 1, 2, 3, 4, 5] from rfl]
    simp only [fillAct, List.getD_cons_succ, List.getD_cons_zero, Act.put, List.setIfInBounds_toArray, List.set_cons_succ, List.set_cons_zero, e0, e2, e6]
    generalize x 1 = x1
    generalize x 3 = x3
    generalize x 4 = x4
    clear e0 e2 hf
    have hv0 : FracL L W (.agg #[.bool (rneg R), .slice A3 (dg (rnum R)).length c3, .bool false, .slice A4 (dg R.den).length c4]) R := ⟨A3, c3, A4, c4, rfl, y3, y4⟩
    have hbx3 := (Below.block hR _ hkl).trans k0'.out
    have hle9 := fun u0 u1 u2 u3 => le_set4 (u0 := u0) (u1 := u1) (u2 := u2) (u3 := u3) (hle'.out.trans hR) (Nat.le_refl _)
    have hb9 := fun u0 u1 u2 u3 => cells4 (heap_set4 (u0 := u0) (u1 := u1) (u2 := u2) (u3 := u3) hbx3)
    have hfin := fun u0 u1 u2 u3 => FracL.box4 (u0 := u0) (u1 := u1) (u2 := u2) (u3 := u3) hv0 hbx3
    obtain ⟨z0, z1, z2, z3⟩ := cells4 hbx3
    have g0 := frozen00 hbx3 0
    have g1 := frozen00 hbx3 1
    have g2 := frozen00 hbx3 2
    have g3 := frozen00 hbx3 3
    obtain ⟨sr, hsr⟩ : ∃ sr, rneg R = sr := ⟨_, rfl⟩
    rw [hsr] at hfin ⊢
    have hv0' := Lib.hid hv0
    have hbx3' := Lib.hid hbx3
    have hle9' := Lib.hid hle9
    have hb9' := Lib.hid hb9
    have hfin' := Lib.hid hfin
    have hsr' := Lib.hid hsr
    have y3' := Lib.hid y3
    have y4' := Lib.hid y4
    have e6' := Lib.hid e6
    have hR' := Lib.hid hR
    clear hR e6 y4 y3 hsr hfin hb9 hle9 hbx3 hv0
    go_wp2
    refine hQ1 _ _ ?_
    go_wp2
    obtain ⟨d0, d1, d2, d3⟩ := hb9'.out (.bool sr) (.slice A3 (dg (rnum R)).length c3) (.bool false) (.slice A4 (dg R.den).length c4)
    exact bodyPost_ret (v := .agg #[.bool sr, .slice A3 (dg (rnum R)).length c3, .bool false, .slice A4 (dg R.den).length c4]) (by simp [results, Try.results23, go_sem, d0, d1, d2, d3]) rfl ⟨_, rfl, hle9'.out _ _ _ _, hfin'.out _ _ _ _⟩
set_option maxRecDepth 100000 in
set_option maxHeartbeats 1000000 in
theorem pf_Ratio (L : Nat → Prop) (n d : Int) (w : World) (hL : Up w L) (hn0 : -9223372036854775808 ≤ n) (hn1 : n ≤ 9223372036854775807) (hd0 : -9223372036854775808 ≤ d) (hd1 : d ≤ 9223372036854775807) :
    Calls Try.prog 6 #[.int .i64 n, .int .i64 d] w (ResPost L (ratioR n d) w) := by
  have hmf : ∀ (fn : Fn) (first cap : Array Value) (w : World), (Instr.makeFunc fn first cap).run Try.prog w = .ok (.func fn first cap) w := fun _ _ _ _ => rfl
  obtain ⟨W0, hW0, hsz, hle, k0, k1, k2⟩ := new3_le w (.cells #[.int .i64 n] 3) (.cells #[.int .i64 d] 3) (.cells #[.bool false, .slice none 0 0, .bool false, .slice none 0 0] 29)
  have c1 := cell00 k1
  by_cases hz : d = 0
  · have hr : ratioR n d = .error 11 := by unfold ratioR; rw [if_pos hz]
    subst hz
    obtain ⟨f0, f1, f2, f3⟩ := cells4 k2
    have g0 := frozen00 k2 0
    have g1 := frozen00 k2 1
    have g2 := frozen00 k2 2
    have g3 := frozen00 k2 3
    have hle9 := fun u0 u1 u2 u3 => le_set4 (u0 := u0) (u1 := u1) (u2 := u2) (u3 := u3) hle (show w.heap.size ≤ w.heap.size + 1 + 1 by omega)
    have hb9 := fun u0 u1 u2 u3 => cells4 (heap_set4 (u0 := u0) (u1 := u1) (u2 := u2) (u3 := u3) k2)
    have hr' := Lib.hid hr
    have hL' := Lib.hid hL
    have hle' := Lib.hid hle
    have k0' := Lib.hid k0
    have k1' := Lib.hid k1
    have k2' := Lib.hid k2
    have hle9' := Lib.hid hle9
    have hb9' := Lib.hid hb9
    clear hb9 hle9 k2 k1 k0 hle hL hr
    go_enter Try.func6, Try.ntmps6
    go_wp2
    obtain ⟨d0, d1, d2, d3⟩ := hb9'.out (.bool false) (.slice none 0 0) (.bool false) (.slice none 0 0)
    exact bodyPost_ret (v := .tuple #[zeroF, .int .i64 11]) (by simp [results, Try.results6, go_sem, zeroF, d0, d1, d2, d3]) rfl ⟨hle9'.out _ _ _ _, _, _, rfl, by rw [hr'.out]; exact ⟨rfl, rfl⟩⟩
  · have hr : ratioR n d = .ok ((n : Rat) / (d : Rat)) := by unfold ratioR; rw [if_neg hz, outR_ok (over_sz hz hn0 hn1 hd0 hd1)]
    have hz1 : (d == 0) = false := beq_eq_false_iff_ne.2 hz
    obtain ⟨R, hR⟩ : ∃ R, (n : Rat) / (d : Rat) = R := ⟨_, rfl⟩
    have hrun := pf_run_frac_ok L R _ #[.pointer (some ⟨w.heap.size, 0, none⟩), .pointer (some ⟨w.heap.size + 1, 0, none⟩)] W0 plain_Ratio1 fun W hW => by
      have h := pf_Ratio1 L n d w.heap.size (w.heap.size + 1) 3 W (hL.le (hle.trans hW)) hn0 hn1 hd0 hd1 hz ((hW.block _ (by omega)).trans k0) ((hW.block _ (by omega)).trans k1)
      rw [hR] at h
      exact h
    rw [hR] at hr
    have hr' := Lib.hid hr
    have hL' := Lib.hid hL
    have hle' := Lib.hid hle
    have k0' := Lib.hid k0
    have k1' := Lib.hid k1
    have k2' := Lib.hid k2
    have hrun' := Lib.hid hrun
    have hR' := Lib.hid hR
    clear hR hrun k2 k1 k0 hle hL hr
    go_enter Try.func6, Try.ntmps6
    go_wp2_with (fail)
    clear hW0
    go_at_call 22
    refine hrun'.out.mono ?_
    rintro e W1 ⟨v1, rfl, hle1, hres0⟩
    have hres : IsRes L W1 v1 0 (.ok R) := ⟨hres0, rfl⟩
    have hresF := hres.form
    obtain ⟨s5, A5, n5, c5, s6, A6, n6, c6, rfl⟩ := hresF
    have k9 := (hle1.block _ (Array.getElem?_eq_some_iff.1 k2'.out).1).trans k2'.out
    have hle9 := fun u0 u1 u2 u3 => le_set4 (u0 := u0) (u1 := u1) (u2 := u2) (u3 := u3) (hle'.out.trans hle1) (show w.heap.size ≤ w.heap.size + 1 + 1 by omega)
    have hb9 := fun u0 u1 u2 u3 => cells4 (heap_set4 (u0 := u0) (u1 := u1) (u2 := u2) (u3 := u3) k9)
    have hfin := fun u0 u1 u2 u3 => IsRes.box4 (u0 := u0) (u1 := u1) (u2 := u2) (u3 := u3) hres k9
    obtain ⟨f0, f1, f2, f3⟩ := cells4 k9
    have g0 := frozen00 k9 0
    have g1 := frozen00 k9 1
    have g2 := frozen00 k9 2
    have g3 := frozen00 k9 3
    have hle1' := Lib.hid hle1
    have hres0' := Lib.hid hres0
    have hres' := Lib.hid hres
    have k9' := Lib.hid k9
    have hle9' := Lib.hid hle9
    have hb9' := Lib.hid hb9
    have hfin' := Lib.hid hfin
    clear hfin hb9 hle9 k9 hres hres0 hle1
    go_wp2
    obtain ⟨d0, d1, d2, d3⟩ := hb9'.out (.bool s5) (.slice A5 n5 c5) (.bool s6) (.slice A6 n6 c6)
    exact bodyPost_ret (v := .tuple #[.agg #[.bool s5, .slice A5 n5 c5, .bool s6, .slice A6 n6 c6], .int .i64 0]) (by simp [results, Try.results6, go_sem, d0, d1, d2, d3]) rfl ⟨hle9'.out _ _ _ _, _, _, rfl, by rw [hr'.out]; exact hfin'.out _ _ _ _⟩
end Go.Proofs.Ytbikpadjmmgpcaa
