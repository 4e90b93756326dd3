/- The law PatternGroup: its walk. -/
import Derived.Test.YtnboppombhibbaaL4Then
namespace Go.Proofs.Ytnboppombhibbaa
open Go.RowKit Go.Lib
set_option linter.unusedVariables false
set_option linter.unusedSimpArgs false
attribute [local go_sem ↓ high] run_eqIn_mv
set_option maxRecDepth 100000 in
set_option maxHeartbeats 4000000 in
theorem walk_PatternGroup (p : Prog) (vp : Value) (ii kk : Nat) (w : World) (hvp : IsProg w vp p) (hii : ii ≤ 65535) (hkk : kk ≤ 65535) :
    Calls Try.prog 9 #[vp, .int .u16 ii, .int .u16 kk] w fun e w' => e = .returned (.bool true) ∧ Below w.heap.size w w' := by
  have hp0 := Lib.hid hvp
  obtain ⟨A0, c0, A1, c1, A5, c5, rfl⟩ := hvp.open
  clear hvp
  have hbx0 := Box.start w (.cells #[.slice A0 p.ros.length c0, .slice A1 p.rub.length c1, .int .i64 p.start, .int .i64 p.throw, .int .i64 p.adv, .slice A5 p.shifts.length c5] 24)
  obtain ⟨G, hG⟩ : ∃ G, greatB p = G := ⟨_, rfl⟩
  cases G with
  | true =>
    have hG' := Lib.hid hG
    clear hG
    go_enter Try.func9, Try.ntmps9
    go_wp2_with (first | (go_at_call 37; ((with_reducible refine (pf_alive _).mono ?_); rintro e w' ⟨rfl, hb⟩; have hbx1 := hbx0.next hb; clear hb hbx0; obtain ⟨p0, p1, p2, p3, p4, p5⟩ := hbx1.prog)) | (go_at_call 14; ((with_reducible refine (pf_r4_Great _ p _ (hp0.out.below hbx1.below)).mono ?_); rintro e w' ⟨rfl, hb⟩; rw [hG'.out])))
    go_ret
    exact ⟨rfl, (hbx1.next hb).below⟩
  | false =>
    by_cases hE : progE p = 0
    · have hbf := benchFacts hE
      have hsl : symL p = allMv p p 3 := by unfold symL; rw [if_pos hE]
      obtain ⟨n, hn⟩ : ∃ n, closeN p = n := ⟨_, rfl⟩
      obtain ⟨N, hN⟩ : ∃ n, per p = n := ⟨_, rfl⟩
      have hcl := (close_le hbf).2.2
      have hpe := per_pos hbf
      have hro := hbf.ros1
      have hlo := lift_ok hbf.ros hbf.rub
      have kclose : ∀ W V, IsProg W V p → Calls Try.prog 29 #[V] W fun e w' => e = .returned (.tuple #[.int .i64 n, .int .i64 0]) ∧ Below W.heap.size W w' := fun W V h => by have h2 := pf_pat_Closes V p W h 0 hE; rw [onOkI_zero, hn] at h2; exact h2
      have kper : ∀ W V, Ints W V (liftL p.ros p.rub) → Calls Try.prog 42 #[V] W fun e w' => e = .returned (.tuple #[.int .i64 N, .int .i64 0]) ∧ Below W.heap.size W w' := fun W V h => by rw [← hN]; exact pf_ros_Period V _ W h hlo
      obtain ⟨l0, hl0⟩ := sym_head hE
      have hclosed : ∀ x ∈ symL p, ∀ y ∈ symL p, thenMv n N x y ∈ symL p := fun x hx y hy => by
        rw [hsl, ← hn, ← hN] at *
        exact then_mem hE hx hy
      have hundo : ∀ x ∈ symL p, ∃ y ∈ symL p, thenMv n N x y = zeroMv := fun x hx => by
        rw [hsl, ← hn, ← hN] at *
        exact then_undo hE hx
      have hnext : ∀ (j : Nat) (a b : Mv), 0 < j → (symL p)[j]? = some a → (symL p)[j - 1]? = some b → a ≠ b := by
        rw [hsl]
        intro j a b h0 h1 h2
        obtain ⟨k1, rfl⟩ := List.getElem?_eq_some_iff.1 h1
        obtain ⟨k2, rfl⟩ := List.getElem?_eq_some_iff.1 h2
        exact sym_next j h0 k1
      have hdiv : (4 * (n : Int)).tmod ((symL p).length : Int) = 0 := by
        have h := sym_count hE
        rw [← hsl, hn] at h
        have h2 : ((symL p).length : Int) ∣ 4 * (n : Int) := by
          have := Int.natCast_dvd_natCast.2 h
          simpa using this
        exact Int.tmod_eq_zero_of_dvd h2
      have hbnd : ∀ x ∈ symL p, (0 ≤ x.cuts ∧ x.cuts < (n : Int)) ∧ (0 ≤ x.turn ∧ x.turn < (N : Int)) := fun x hx => by
        rw [hsl] at hx
        have h := (mem_allMv hbf hbf 3 x).1 hx
        rw [hn, hN] at h
        exact ⟨h.2.1, h.2.2.1⟩
      rw [hn] at hcl
      rw [hN] at hpe
      have hle := symL_le p hE
      have hlz : 1 ≤ (symL p).length := by rw [hsl, hl0]; simp
      have ksym : ∀ W V, IsProg W V p → Calls Try.prog 41 #[V] W fun e w' => ∃ v', e = .returned (.tuple #[v', .int .i64 0]) ∧ Below W.heap.size W w' ∧ Mvs w' v' (symL p) := fun W V h => (pf_pat_Symmetries V p W h 0 hE).mono (by rintro e w' ⟨v', h1, h2, h3⟩; exact ⟨v', h1, h2, Mvs.of_own h3 (by omega)⟩)
      have klift : ∀ W V, IsProg W V p → Calls Try.prog 16 #[V] W fun e w' => ∃ v', e = .returned (.tuple #[v', .int .i64 0]) ∧ Below W.heap.size W w' ∧ Ints w' v' (liftL p.ros p.rub) := fun W V h => (pf_pat_Lift V p W h 0 hE).mono (by rintro e w' ⟨v', h1, h2, h3⟩; exact ⟨v', h1, h2, own_ints h3⟩)
      clear hl0
      generalize symL p = L at hsl hclosed hundo hnext hdiv hbnd hle ksym hlz
      have hn1 : (1 : Int) ≤ (n : Int) := by omega
      have hN1 : (1 : Int) ≤ (N : Int) := by omega
      have hNb : (N : Int) ≤ 96 := by omega
      have hnb : (n : Int) ≤ 1152 := by omega
      clear hsl
      have hG' := Lib.hid hG
      have hle' := Lib.hid hle
      have ksym' := Lib.hid ksym
      have klift' := Lib.hid klift
      have kclose' := Lib.hid kclose
      have kper' := Lib.hid kper
      have hcl' := Lib.hid hcl
      have hpe' := Lib.hid hpe
      have hlo' := Lib.hid hlo
      have hbf' := Lib.hid hbf
      have hn' := Lib.hid hn
      have hN' := Lib.hid hN
      have hclosed' := Lib.hid hclosed
      have hundo' := Lib.hid hundo
      have hnext' := Lib.hid hnext
      have hbnd' := Lib.hid hbnd
      have hro' := Lib.hid hro
      clear hro hbnd hnext hundo hclosed hN hn hbf hlo hpe hcl kper kclose klift ksym hle hG
      go_enter Try.func9, Try.ntmps9
      go_upto_region 7 with (first | (go_at_call 37; (with_reducible refine (pf_alive _).mono ?_); rintro e w' ⟨rfl, hb⟩; have hbx1 := hbx0.next hb; clear hb hbx0; obtain ⟨p0, p1, p2, p3, p4, p5⟩ := hbx1.prog) | (go_at_call 14; (with_reducible refine (pf_r4_Great _ p _ (hp0.out.below hbx1.below)).mono ?_); rintro e w' ⟨rfl, hb⟩; rw [hG'.out]; have hbx2 := hbx1.next hb; clear hb hbx1 p0 p1 p2 p3 p4 p5; obtain ⟨p0, p1, p2, p3, p4, p5⟩ := hbx2.prog) | (go_at_call 41; (with_reducible refine (ksym'.out _ _ (hp0.out.below hbx2.below)).mono ?_); rintro e w' ⟨vs, rfl, hb, hms⟩; have hms' := Lib.hid hms; have hbx3 := hbx2.next hb; clear hb hms hbx2 p0 p1 p2 p3 p4 p5; obtain ⟨p0, p1, p2, p3, p4, p5⟩ := hbx3.prog))
      go_upto_region 10 with (first | (go_at_call 29; (with_reducible refine (kclose'.out _ _ (hp0.out.below hbx3.below)).mono ?_); rintro e w' ⟨rfl, hb⟩; have hms2 := Lib.hid (hms'.out.below hb); have hbx4 := hbx3.next hb; clear hb hbx3 p0 p1 p2 p3 p4 p5; obtain ⟨p0, p1, p2, p3, p4, p5⟩ := hbx4.prog) | (go_at_call 16; (with_reducible refine (klift'.out _ _ (hp0.out.below hbx4.below)).mono ?_); rintro e w' ⟨vl, rfl, hb, hli⟩; have hli' := Lib.hid hli; have hms3 := Lib.hid (hms2.out.below hb); have hbx5 := hbx4.next hb; clear hb hli hbx4 p0 p1 p2 p3 p4 p5; obtain ⟨p0, p1, p2, p3, p4, p5⟩ := hbx5.prog) | (go_at_call 42; (with_reducible refine (kper'.out _ _ hli'.out).mono ?_); rintro e w' ⟨rfl, hb⟩; have hms4 := Lib.hid (hms3.out.below hb); have hbx6 := hbx5.next hb; clear hb hbx5 p0 p1 p2 p3 p4 p5; obtain ⟨p0, p1, p2, p3, p4, p5⟩ := hbx6.prog))
      clear hms' hms2 hms3 hli' ksym' klift' kclose' kper' hlo' hbf'
      obtain ⟨As, cs, rfl, hl6, hrd⟩ := id hms4.out
      obtain ⟨sb, rfl, hsb, hrc⟩ := hrd (by omega)
      obtain ⟨ln, hLn⟩ : ∃ ln, L.length = ln := ⟨_, rfl⟩
      rw [hLn] at hl6 hlz hdiv ⊢
      have hlnz : ((ln : Int) == 0) = false := beq_eq_false_iff_ne.2 (by omega)
      have hln0 : (0 : Int) < (ln : Int) := by omega
      have hlnn : ¬ (ln : Int) = 0 := by omega
      have hw4 : IntKind.i64.wrap (4 * (n : Int)) = 4 * (n : Int) := IntWalk.i64_in _ (by omega)
      have hrc' := Lib.hid hrc
      clear hrd hrc
      have hLn' := Lib.hid hLn
      clear hLn
      go_upto_region 12 with (fail)
      obtain ⟨xi, hxi⟩ : ∃ x : Nat, x = ii % ln := ⟨_, rfl⟩
      obtain ⟨yi, hyi⟩ : ∃ x : Nat, x = kk % ln := ⟨_, rfl⟩
      have hxl : xi < ln := by rw [hxi]; exact Nat.mod_lt _ (by omega)
      have hyl : yi < ln := by rw [hyi]; exact Nat.mod_lt _ (by omega)
      have e1 : (ii : Int).tmod (ln : Int) = (xi : Int) := by rw [hxi]; rfl
      have e2 : (kk : Int).tmod (ln : Int) = (yi : Int) := by rw [hyi]; rfl
      obtain ⟨s0, s1, s2, s3⟩ := hrc'.out xi (by have := hLn'.out; omega)
      obtain ⟨t0, t1, t2, t3⟩ := hrc'.out yi (by have := hLn'.out; omega)
      have hxm : L[xi]'(by have := hLn'.out; omega) ∈ L := List.getElem_mem _
      have hym : L[yi]'(by have := hLn'.out; omega) ∈ L := List.getElem_mem _
      generalize L[xi]'(by have := hLn'.out; omega) = x at hxm s0 s1 s2 s3
      generalize L[yi]'(by have := hLn'.out; omega) = y at hym t0 t1 t2 t3
      obtain ⟨xc, xt, xm, xb⟩ := x
      obtain ⟨yc, yt, ym, yb⟩ := y
      have i1 : (0 : Int) ≤ (xi : Int) := by omega
      have i2 : (xi : Int) < (ln : Int) := by omega
      have i3 : (0 : Int) ≤ (yi : Int) := by omega
      have i4 : (yi : Int) < (ln : Int) := by omega
      have hxi' := Lib.hid hxi
      have hyi' := Lib.hid hyi
      have hxm' := Lib.hid hxm
      have hym' := Lib.hid hym
      have hdiv' := Lib.hid hdiv
      clear hdiv hym hxm hyi hxi
      go_region
      all_goals
        clear p0 p1 p2 p3 p4 p5 s0 s1 s2 s3 t0 t1 t2 t3 e1 e2 i1 i2 i3 i4
        first
          | (
            have hb67 : Below w'.heap.size w' ((w'.alloc (.cells #[.int .i64 xc, .int .i64 xt, .bool xm, .bool xb] 68)).alloc (.cells #[.int .i64 yc, .int .i64 yt, .bool ym, .bool yb] 68)).drew := (alc2 _ _ _).drew
            have hA : ((w'.alloc (.cells #[.int .i64 xc, .int .i64 xt, .bool xm, .bool xb] 68)).alloc (.cells #[.int .i64 yc, .int .i64 yt, .bool ym, .bool yb] 68)).drew.heap[w'.heap.size]? = some (.cells #[.int .i64 xc, .int .i64 xt, .bool xm, .bool xb] 68) := (Below.heap_alloc _ _ _ (by simp)).trans (heap_alloc_new _ _)
            have hB : ((w'.alloc (.cells #[.int .i64 xc, .int .i64 xt, .bool xm, .bool xb] 68)).alloc (.cells #[.int .i64 yc, .int .i64 yt, .bool ym, .bool yb] 68)).drew.heap[w'.heap.size + 1]? = some (.cells #[.int .i64 yc, .int .i64 yt, .bool ym, .bool yb] 68) := by show ((w'.alloc (.cells #[.int .i64 xc, .int .i64 xt, .bool xm, .bool xb] 68)).alloc (.cells #[.int .i64 yc, .int .i64 yt, .bool ym, .bool yb] 68)).heap[w'.heap.size + 1]? = _; have h := heap_alloc_new (w'.alloc (.cells #[.int .i64 xc, .int .i64 xt, .bool xm, .bool xb] 68)) (.cells #[.int .i64 yc, .int .i64 yt, .bool ym, .bool yb] 68); simpa only [World.size_alloc] using h
            have hbx7 := Lib.hid (hbx6.next hb67)
            have hms7 := Lib.hid (hms4.out.below hb67)
            obtain ⟨X, hX⟩ : ∃ X, w'.heap.size = X := ⟨_, rfl⟩
            obtain ⟨Y, hY⟩ : ∃ Y, w'.heap.size + 1 = Y := ⟨_, rfl⟩
            rw [hY] at hB ⊢
            rw [hX] at hA ⊢
            have hx7 := Lib.hid hA
            have hy7 := Lib.hid hB
            clear hA hB
            generalize ((w'.alloc (.cells #[.int .i64 xc, .int .i64 xt, .bool xm, .bool xb] 68)).alloc (.cells #[.int .i64 yc, .int .i64 yt, .bool ym, .bool yb] 68)).drew = w7 at hbx7 hms7 hx7 hy7 hb67 ⊢
            clear hX hY hbx6 hms4 hb67 hrc' hsb
            clear w')
          | (
            have hb67 : Below w'.heap.size w' ((w'.alloc (.cells #[.int .i64 yc, .int .i64 yt, .bool ym, .bool yb] 68)).alloc (.cells #[.int .i64 xc, .int .i64 xt, .bool xm, .bool xb] 68)).drew := (alc2 _ _ _).drew
            have hA : ((w'.alloc (.cells #[.int .i64 yc, .int .i64 yt, .bool ym, .bool yb] 68)).alloc (.cells #[.int .i64 xc, .int .i64 xt, .bool xm, .bool xb] 68)).drew.heap[w'.heap.size]? = some (.cells #[.int .i64 yc, .int .i64 yt, .bool ym, .bool yb] 68) := (Below.heap_alloc _ _ _ (by simp)).trans (heap_alloc_new _ _)
            have hB : ((w'.alloc (.cells #[.int .i64 yc, .int .i64 yt, .bool ym, .bool yb] 68)).alloc (.cells #[.int .i64 xc, .int .i64 xt, .bool xm, .bool xb] 68)).drew.heap[w'.heap.size + 1]? = some (.cells #[.int .i64 xc, .int .i64 xt, .bool xm, .bool xb] 68) := by show ((w'.alloc (.cells #[.int .i64 yc, .int .i64 yt, .bool ym, .bool yb] 68)).alloc (.cells #[.int .i64 xc, .int .i64 xt, .bool xm, .bool xb] 68)).heap[w'.heap.size + 1]? = _; have h := heap_alloc_new (w'.alloc (.cells #[.int .i64 yc, .int .i64 yt, .bool ym, .bool yb] 68)) (.cells #[.int .i64 xc, .int .i64 xt, .bool xm, .bool xb] 68); simpa only [World.size_alloc] using h
            have hbx7 := Lib.hid (hbx6.next hb67)
            have hms7 := Lib.hid (hms4.out.below hb67)
            obtain ⟨X, hX⟩ : ∃ X, w'.heap.size + 1 = X := ⟨_, rfl⟩
            obtain ⟨Y, hY⟩ : ∃ Y, w'.heap.size = Y := ⟨_, rfl⟩
            rw [hX] at hB ⊢
            rw [hY] at hA ⊢
            have hx7 := Lib.hid hB
            have hy7 := Lib.hid hA
            clear hA hB
            generalize ((w'.alloc (.cells #[.int .i64 yc, .int .i64 yt, .bool ym, .bool yb] 68)).alloc (.cells #[.int .i64 xc, .int .i64 xt, .bool xm, .bool xb] 68)).drew = w7 at hbx7 hms7 hx7 hy7 hb67 ⊢
            clear hX hY hbx6 hms4 hb67 hrc' hsb
            clear w')
      all_goals
        obtain ⟨m0, m1, m2, m3⟩ := move_cells hx7.out
        obtain ⟨n0, n1, n2, n3⟩ := move_cells hy7.out
        have hbdx := hbnd'.out _ hxm'.out
        have hbdy := hbnd'.out _ hym'.out
        have kth : ∀ q : Mv, q ∈ L → ∀ W, Calls Try.prog 44 #[.agg #[.int .i64 xc, .int .i64 xt, .bool xm, .bool xb], .agg #[.int .i64 q.cuts, .int .i64 q.turn, .bool q.mirror, .bool q.back], .int .i64 n, .int .i64 N] W fun e w' => e = .returned (.agg #[.int .i64 (thenMv n N ⟨xc, xt, xm, xb⟩ q).cuts, .int .i64 (thenMv n N ⟨xc, xt, xm, xb⟩ q).turn, .bool (thenMv n N ⟨xc, xt, xm, xb⟩ q).mirror, .bool (thenMv n N ⟨xc, xt, xm, xb⟩ q).back]) ∧ Below W.heap.size W w' := fun q hq W => by
          have hb := hbnd'.out q hq
          have hb2 := hbdx
          exact pf_then xc xt q.cuts q.turn xm xb q.mirror q.back n N W (by have := hb2.1; simp only at this; omega) (by have := hb2.2; simp only at this; omega) (by omega) (by omega) (by omega) (by omega)
        obtain ⟨z, hz⟩ : ∃ z, thenMv n N ⟨xc, xt, xm, xb⟩ ⟨yc, yt, ym, yb⟩ = z := ⟨_, rfl⟩
        have hzL : z ∈ L := by rw [← hz]; exact hclosed'.out _ hxm'.out _ hym'.out
        have ky := kth _ hym'.out
        rw [hz] at ky
        obtain ⟨zc, zt, zm, zb⟩ := z
        obtain ⟨TC, hTC⟩ : ∃ T : Nat → Bool, ∀ i (h : i < L.length), T i = decide (L[i] = ⟨zc, zt, zm, zb⟩) := ⟨fun i => if h : i < L.length then decide (L[i] = ⟨zc, zt, zm, zb⟩) else false, fun i h => dif_pos h⟩
        obtain ⟨TU, hTU⟩ : ∃ T : Nat → Bool, ∀ i (h : i < L.length), T i = decide (thenMv n N ⟨xc, xt, xm, xb⟩ L[i] = zeroMv) := ⟨fun i => if h : i < L.length then decide (thenMv n N ⟨xc, xt, xm, xb⟩ L[i] = zeroMv) else false, fun i h => dif_pos h⟩
        have hfc : someB TC ln = true := by rw [← hLn'.out, someB_mem L _ TC hTC]; exact hzL
        have hfu : someB TU ln = true := by
          obtain ⟨q, hq, hqz⟩ := hundo'.out _ hxm'.out
          obtain ⟨j, hj, hjq⟩ := List.mem_iff_getElem.1 hq
          rw [someB_iff]
          refine ⟨j, by rw [← hLn'.out]; exact hj, ?_⟩
          rw [hTU j hj, hjq]
          exact decide_eq_true hqz
        have hz' := Lib.hid hz
        have hzL' := Lib.hid hzL
        have ky' := Lib.hid ky
        have kth' := Lib.hid kth
        have hTC' := Lib.hid hTC
        have hTU' := Lib.hid hTU
        have hfc' := Lib.hid hfc
        have hfu' := Lib.hid hfu
        have hbdx' := Lib.hid hbdx
        have hbdy' := Lib.hid hbdy
        clear hbdy hbdx hfu hfc hTU hTC kth ky hzL hz
        go_upto_region 14 with (first | (go_at_call 44; (with_reducible refine (ky'.out _).mono ?_); rintro e w' ⟨rfl, hb⟩; have hbx8 := Lib.hid (hbx7.out.next hb); have hms8 := Lib.hid (hms7.out.below hb); have hx8 := Lib.hid ((hb.block X (Array.getElem?_eq_some_iff.1 hx7.out).1).trans hx7.out); clear hb))
        have hZ : (w'.alloc (.cells #[.int .i64 zc, .int .i64 zt, .bool zm, .bool zb] 68)).heap[w'.heap.size]? = some (.cells #[.int .i64 zc, .int .i64 zt, .bool zm, .bool zb] 68) := heap_alloc_new _ _
        have hb89 := alc1 w' (.cells #[.int .i64 zc, .int .i64 zt, .bool zm, .bool zb] 68)
        have hbx9 := Lib.hid (hbx8.out.next hb89)
        have hms9 := Lib.hid (hms8.out.below hb89)
        have hx9 := Lib.hid ((hb89.block X (Array.getElem?_eq_some_iff.1 hx8.out).1).trans hx8.out)
        obtain ⟨Z, hZs⟩ : ∃ Z, w'.heap.size = Z := ⟨_, rfl⟩
        rw [hZs] at hZ ⊢
        have hz9 := Lib.hid hZ
        clear hZ hb89
        generalize (w'.alloc (.cells #[.int .i64 zc, .int .i64 zt, .bool zm, .bool zb] 68)) = w9 at hbx9 hms9 hx9 hz9 ⊢
        clear hZs hbx8 hms8 hx8 hbx7 hms7 hx7 hy7 m0 m1 m2 m3 n0 n1 n2 n3
        have hXl : X < w9.heap.size := (Array.getElem?_eq_some_iff.1 hx9.out).1
        have hZl : Z < w9.heap.size := (Array.getElem?_eq_some_iff.1 hz9.out).1
        obtain ⟨_, _, hsl9, -, hrd⟩ := id hms9.out
        obtain ⟨sb', rfl, hsb, hrc⟩ := hrd (by have := hLn'.out; omega)
        injection hsl9 with e1 e2 e3
        injection e1 with e1
        injection e1 with e1
        subst e1
        have hrc' := Lib.hid hrc
        clear hrd e2 e3 hrc
        go_wp2
        go_loopw [116, 19, 20] (fun i c u wr => ∃ k : Nat, k ≤ ln ∧ i = .int .i64 k ∧ c = .bool (someB TC k) ∧ u = .bool (someB TU k) ∧ Hid (Below w9.heap.size w9 wr)) (fun i _ _ _ => ln - (intOf i).toNat)
        case atStart => exact ⟨0, Nat.zero_le _, rfl, rfl, rfl, Lib.hid (Below.refl _ _)⟩
        case round =>
          obtain ⟨i, hi, rfl, rfl, rfl, hbw⟩ := hrel
          by_cases hil : i < ln
          · have hiL : i < L.length := by have := hLn'.out; omega
            have hcell : ∀ (j : Nat) (h : j < L.length) W, Below w9.heap.size w9 W → W.cell? ⟨sb, j * 4, none⟩ = some (.int .i64 L[j].cuts) ∧ W.cell? ⟨sb, j * 4 + 1, none⟩ = some (.int .i64 L[j].turn) ∧ W.cell? ⟨sb, j * 4 + 2, none⟩ = some (.bool L[j].mirror) ∧ W.cell? ⟨sb, j * 4 + 3, none⟩ = some (.bool L[j].back) := fun j hj W hW => by
              have hkc : ∀ o, W.cell? ⟨sb, o, none⟩ = w9.cell? ⟨sb, o, none⟩ := fun o => hW.cell (p := ⟨sb, o, none⟩) hsb
              rw [hkc, hkc, hkc, hkc]
              exact hrc'.out j hj
            have hcy := hcell i hiL
            have hco := hcell (i - 1) (by omega)
            have hne : 0 < i → L[i] ≠ L[i - 1]'(by omega) := fun h => hnext'.out i _ _ h (List.getElem?_eq_getElem _) (List.getElem?_eq_getElem _)
            have hkq := kth'.out L[i] (List.getElem_mem _)
            have hs1 := someB_succ TC i
            rw [hTC'.out i hiL] at hs1
            have hs2 := someB_succ TU i
            rw [hTU'.out i hiL] at hs2
            clear hcell
            generalize L[i] = q at hcy hne hkq hs1 hs2
            generalize L[i - 1]'(by omega) = o at hco hne
            generalize thenMv n N ⟨xc, xt, xm, xb⟩ q = r at hkq hs2
            obtain ⟨qc, qt, qm, qb⟩ := q
            obtain ⟨oc, ot, om, ob⟩ := o
            obtain ⟨rc, rt, rm, rb⟩ := r
            replace hs1 : someB TC (i + 1) = (someB TC i || mvEq qc qt qm qb zc zt zm zb) := hs1
            replace hs2 : someB TU (i + 1) = (someB TU i || mvEq rc rt rm rb 0 0 false false) := hs2
            have hne2 : 0 < i → mvEq qc qt qm qb oc ot om ob = false := fun h => decide_eq_false (hne h)
            have hiI : (i : Int) < (ln : Int) := by omega
            have hi0 : (0 : Int) ≤ (i : Int) := by omega
            generalize someB TC i = A at hs1 ⊢
            generalize someB TU i = B at hs2 ⊢
            have hcy' := Lib.hid hcy
            have hco' := Lib.hid hco
            have hkq' := Lib.hid hkq
            have hs1' := Lib.hid hs1
            have hs2' := Lib.hid hs2
            have hne' := Lib.hid hne
            have hne2' := Lib.hid hne2
            clear hne2 hne hs2 hs1 hkq hco hcy
            obtain ⟨s0, s1, s2, s3⟩ := hcy'.out wr hbw.out
            obtain ⟨m0, m1, m2, m3⟩ := move_cells ((hbw.out.block Z hZl).trans hz9.out)
            cases A
            all_goals
              go_wp2
              go_quiet (fail)
              have hbq : Below w9.heap.size w9 (wr.drewN nq) := below_drewN' hbw.out nq
              clear m0 m1 m2 m3 s0 s1 s2 s3 hbw
              generalize wr.drewN nq = w10 at hbq ⊢
              have hbw := Lib.hid hbq
              clear hbq
              obtain ⟨s0, s1, s2, s3⟩ := hcy'.out w10 hbw.out
              obtain ⟨m0, m1, m2, m3⟩ := move_cells ((hbw.out.block X hXl).trans hx9.out)
              cases B
              case false =>
                go_wp2
                have hkq2 := hkq'
                obtain ⟨ι, fam, hne0, hf1, hf2, hf0⟩ := fam_below _ w10 (Nat.le_refl _)
                have S0 := fun n => (hcy'.out _ (hbw.out.trans ((hf1 n).mono hbw.out.size))).1
                have S1 := fun n => (hcy'.out _ (hbw.out.trans ((hf1 n).mono hbw.out.size))).2.1
                have S2 := fun n => (hcy'.out _ (hbw.out.trans ((hf1 n).mono hbw.out.size))).2.2.1
                have S3 := fun n => (hcy'.out _ (hbw.out.trans ((hf1 n).mono hbw.out.size))).2.2.2
                have M0 := fun n => (move_cells (((hf1 n).block X (Nat.lt_of_lt_of_le hXl hbw.out.size)).trans ((hbw.out.block X hXl).trans hx9.out))).1
                have M1 := fun n => (move_cells (((hf1 n).block X (Nat.lt_of_lt_of_le hXl hbw.out.size)).trans ((hbw.out.block X hXl).trans hx9.out))).2.1
                have M2 := fun n => (move_cells (((hf1 n).block X (Nat.lt_of_lt_of_le hXl hbw.out.size)).trans ((hbw.out.block X hXl).trans hx9.out))).2.2.1
                have M3 := fun n => (move_cells (((hf1 n).block X (Nat.lt_of_lt_of_le hXl hbw.out.size)).trans ((hbw.out.block X hXl).trans hx9.out))).2.2.2
                clear m0 m1 m2 m3 s0 s1 s2 s3
                have hf1' := Lib.hid hf1
                have hf2' := Lib.hid hf2
                clear hf2 hf1
                refine wp_region_fam hf0 (by kernel_rfl) (by kernel_rfl) ?_
                repeat (go_big_quiet_step ((go_at_call 44; exact fam_call hf2'.out (hkq'.out _))))
                refine wpQuiet_nil ?_
                intro nq
                have hW := hf1'.out nq
                clear S0 S1 S2 S3 M0 M1 M2 M3 hf0
                generalize fam nq = w11 at hW ⊢
                clear hf1' hf2'
                have hbw2 := Lib.hid (hbw.out.trans (hW.mono hbw.out.size))
                clear hW hbw
                go_wp2
                by_cases h0 : i = 0
                · have hg : ¬ (0 : Int) < (i : Int) := by omega
                  go_quiet (fail)
                  go_wp2
                  go_roundw
                  case rel => exact ⟨i + 1, by omega, by go_num, by rw [hs1'.out]; rfl, by rw [hs2'.out]; rfl, Lib.hid (below_drewN' hbw2.out _)⟩
                  case measure => simp [intOf]; omega
                · have hg : (0 : Int) < (i : Int) := by omega
                  have hgn : 0 < i := by omega
                  have hmf := hne2'.out (by omega)
                  obtain ⟨j, hj⟩ : ∃ j : Nat, i - 1 = j := ⟨_, rfl⟩
                  have hj2 : IntKind.i64.wrap ((i : Int) - 1) = (j : Int) := by rw [← hj]; rw [show (i : Int) - 1 = ((i - 1 : Nat) : Int) by omega]; exact IntWalk.i64_in _ (by omega)
                  obtain ⟨s0, s1, s2, s3⟩ := hcy'.out w11 hbw2.out
                  obtain ⟨o0, o1, o2, o3⟩ := hco'.out w11 hbw2.out
                  rw [hj] at o0 o1 o2 o3
                  have i1 : (0 : Int) ≤ (j : Int) := by omega
                  have i2 : (j : Int) < (ln : Int) := by omega
                  have hj' := Lib.hid hj
                  have h0' := Lib.hid h0
                  clear h0 hj
                  go_quiet (fail)
                  go_wp2
                  go_roundw
                  case rel => exact ⟨i + 1, by omega, by go_num, by rw [hs1'.out]; rfl, by rw [hs2'.out]; rfl, Lib.hid (below_drewN' hbw2.out _)⟩
                  case measure => simp [intOf]; have := h0'.out; omega
              case true =>
                go_wp2
                go_quiet (fail)
                have hbq : Below w9.heap.size w9 (w10.drewN nq) := below_drewN' hbw.out nq
                clear m0 m1 m2 m3 s0 s1 s2 s3 hbw
                generalize w10.drewN nq = w11 at hbq ⊢
                have hbw2 := Lib.hid hbq
                clear hbq
                go_wp2
                by_cases h0 : i = 0
                · have hg : ¬ (0 : Int) < (i : Int) := by omega
                  go_quiet (fail)
                  go_wp2
                  go_roundw
                  case rel => exact ⟨i + 1, by omega, by go_num, by rw [hs1'.out]; rfl, by rw [hs2'.out]; rfl, Lib.hid (below_drewN' hbw2.out _)⟩
                  case measure => simp [intOf]; omega
                · have hg : (0 : Int) < (i : Int) := by omega
                  have hgn : 0 < i := by omega
                  have hmf := hne2'.out (by omega)
                  obtain ⟨j, hj⟩ : ∃ j : Nat, i - 1 = j := ⟨_, rfl⟩
                  have hj2 : IntKind.i64.wrap ((i : Int) - 1) = (j : Int) := by rw [← hj]; rw [show (i : Int) - 1 = ((i - 1 : Nat) : Int) by omega]; exact IntWalk.i64_in _ (by omega)
                  obtain ⟨s0, s1, s2, s3⟩ := hcy'.out w11 hbw2.out
                  obtain ⟨o0, o1, o2, o3⟩ := hco'.out w11 hbw2.out
                  rw [hj] at o0 o1 o2 o3
                  have i1 : (0 : Int) ≤ (j : Int) := by omega
                  have i2 : (j : Int) < (ln : Int) := by omega
                  have hj' := Lib.hid hj
                  have h0' := Lib.hid h0
                  clear h0 hj
                  go_quiet (fail)
                  go_wp2
                  go_roundw
                  case rel => exact ⟨i + 1, by omega, by go_num, by rw [hs1'.out]; rfl, by rw [hs2'.out]; rfl, Lib.hid (below_drewN' hbw2.out _)⟩
                  case measure => simp [intOf]; have := h0'.out; omega
          · obtain rfl : ln = i := by omega
            rw [hfc'.out, hfu'.out]
            go_wp2
            go_ret
            exact ⟨rfl, (hbx9.out.next hbw.out).below⟩
    · obtain ⟨E, hEE⟩ : ∃ E, progE p = E := ⟨_, rfl⟩
      have hEz : (E != 0) = true := by rw [← hEE]; simpa using hE
      have hs0 : symL p = [] := by unfold symL; rw [if_neg hE]
      clear hE
      have hG' := Lib.hid hG
      have hEE' := Lib.hid hEE
      have hs0' := Lib.hid hs0
      clear hs0 hEE hG
      go_enter Try.func9, Try.ntmps9
      go_wp2_with (first | (go_at_call 37; ((with_reducible refine (pf_alive _).mono ?_); rintro e w' ⟨rfl, hb⟩; have hbx1 := hbx0.next hb; clear hb hbx0; obtain ⟨p0, p1, p2, p3, p4, p5⟩ := hbx1.prog)) | (go_at_call 14; ((with_reducible refine (pf_r4_Great _ p _ (hp0.out.below hbx1.below)).mono ?_); rintro e w' ⟨rfl, hb⟩; rw [hG'.out]; have hbx2 := hbx1.next hb; clear hb hbx1 p0 p1 p2 p3 p4 p5; obtain ⟨p0, p1, p2, p3, p4, p5⟩ := hbx2.prog)) | (go_at_call 41; ((with_reducible refine (pf_pat_Symmetries _ p _ (hp0.out.below hbx2.below) E hEE'.out).mono ?_); rintro e w' ⟨vs, rfl, hb, hrow⟩; rw [hs0'.out] at hrow; obtain ⟨A9, c9, rfl⟩ := slice_formG hrow; have hbx3 := hbx2.next hb; clear hb hrow hbx2 p0 p1 p2 p3 p4 p5)))
      go_ret
      exact ⟨rfl, hbx3.below⟩
theorem law_PatternGroup (a0 : Prog) (x0 : Value) (a1 a2 : Int) (w : World) (w0 : IsProg w x0 a0 ∧ a0.fits) (w1 : (Lit.int .u16 a1).wf = true) (w2 : (Lit.int .u16 a2).wf = true) :
    Calls Try.prog 9 #[x0, .int .u16 a1, .int .u16 a2] w fun e w' => e = .returned (.bool true) ∧ Below w.heap.size w w' := by
  have h1' : IntKind.u16.min ≤ a1 ∧ a1 ≤ IntKind.u16.max := by simpa [Lit.wf] using w1
  have h2' : IntKind.u16.min ≤ a2 ∧ a2 ≤ IntKind.u16.max := by simpa [Lit.wf] using w2
  have h1 : 0 ≤ a1 ∧ a1 ≤ 65535 := h1'
  have h2 : 0 ≤ a2 ∧ a2 ≤ 65535 := h2'
  obtain ⟨sn, rfl⟩ : ∃ sn : Nat, a1 = sn := ⟨a1.toNat, by omega⟩
  obtain ⟨tn, rfl⟩ : ∃ tn : Nat, a2 = tn := ⟨a2.toNat, by omega⟩
  exact walk_PatternGroup a0 x0 sn tn w w0.1 (by omega) (by omega)
end Go.Proofs.Ytnboppombhibbaa
