/- The reference's paths: CheckPath, Pace, Order, Great; Around. The reference's paths: Pace, Order, Great; Around. -/
import Derived.Test.YtbikpadjmmgpcaaGreatPathO
import Derived.Test.YtbikpadjmmgpcaaGreatTRA
namespace Go.Proofs.YtbikpadjmmgpcaaGreat
open Go.RowKit Go.Shelf
set_option linter.unusedVariables false
set_option linter.unusedSimpArgs false
attribute [local go_sem] Oper.semAt_some
attribute [local go_sem ↓] Go.wp_at_zero Go.wp_at_succ
/-- The cells of one arm, in a later world. -/
theorem arm_at {w : World} {v : Value} {l : List ArmA} {tv : Nat → Array Value} (h : ArmsV w v l tv) {j : Nat} (hj : j < l.length) : ∃ b off c, v = .slice (some ⟨b, off, none⟩) l.length c ∧ c ≤ maxLen ∧ b < w.heap.size ∧ ArmC w b (off + j * 9) (l.getD j default).k (tv j) ∧ IsTurnA w (.agg (tv j)) (l.getD j default).c ∧ -9223372036854775808 ≤ (l.getD j default).k ∧ (l.getD j default).k ≤ 9223372036854775807 := by
  obtain ⟨A, c, rfl, hlc, hcm, hAN, hki, htv, hr⟩ := h
  obtain ⟨b, off, rfl, hb, hcc⟩ := hr (by omega)
  have hg0 : l.getD j default = l[j] := by simp [List.getD_eq_getElem?_getD, List.getElem?_eq_getElem hj]
  rw [hg0]
  exact ⟨b, off, c, rfl, hcm, hb, hcc j hj, htv j hj, hki _ (List.getElem_mem hj)⟩
theorem famLe {P : Program} {f : FuncId} {args : Array Value} {W : World} {v : Value} (h : Calls P f args W fun e w' => e = .returned v ∧ Le W w') : Calls P f args W fun e w' => e = .returned v ∧ Below W.heap.size W w' := h
set_option maxRecDepth 100000 in
set_option maxHeartbeats 4000000 in
theorem pf_n_CheckPath (l : List ArmA) (v : Value) (w : World) (hv : ArmsL w v l) :
    Calls Tryz.prog 57 #[v] w fun e w' => e = .returned (.int .i64 (pathE l)) ∧ Le w w' := by
  obtain ⟨tv, hvv⟩ := hv.vals
  have hvv' := Lib.hid hvv
  obtain ⟨A, c, rfl, hlc, hcm, -⟩ := hvv
  unfold maxLen at hcm
  by_cases hbig : 24 < l.length
  · have e1 : pathE l = 4 := by unfold pathE; rw [if_pos hbig]
    rw [e1]
    have e1' := Lib.hid e1
    clear e1
    go_enter Tryz.func57, Tryz.ntmps57
    go_wp2
    go_ret
    exact ⟨rfl, Le.refl _⟩
  · have e1 : pathE l = if pathOk l then 0 else 20 := by unfold pathE; rw [if_neg hbig]
    obtain ⟨E, hE⟩ : ∃ E, pathE l = E := ⟨_, rfl⟩
    have eOk : pathOk l = true → E = 0 := fun h => by rw [← hE, e1, h]; rfl
    have eNo : pathOk l = false → E = 20 := fun h => by rw [← hE, e1, h]; rfl
    rw [hE]
    have hb24 : ¬ (24 : Int) < (l.length : Int) := by omega
    have e1' := Lib.hid e1
    have hE' := Lib.hid hE
    have eOk' := Lib.hid eOk
    have eNo' := Lib.hid eNo
    have hv' := Lib.hid hv
    clear hv eNo eOk hE e1
    go_enter Tryz.func57, Tryz.ntmps57
    go_wp2
    go_loopw [3] (fun i wr => ∃ k : Nat, k ≤ l.length ∧ i = .int .i64 k ∧ Hid (Le w wr) ∧ Hid (∀ j, j < k → armOk l j = true)) (fun i _ => l.length - (intOf i).toNat)
    case atStart => exact ⟨0, Nat.zero_le _, rfl, Lib.hid (Le.refl _), Lib.hid (fun j h => absurd h (Nat.not_lt_zero j))⟩
    case round =>
      obtain ⟨k, hk, rfl, hle, hok⟩ := hrel
      by_cases hlt : k < l.length
      · obtain ⟨b, off, c', heq, -, hb, hac, hta, hk1, hk2⟩ := arm_at hvv'.out hlt
        injection heq with q1 q2 q3
        subst q1 q3
        clear q2
        obtain ⟨s1, A1, n1, c1, t1, B1, m1, d1, s2, A2, n2, c2, t2, B2, m2, d2, he, a0, a1, a2, a3, a4, a5, a6, a7, a8⟩ := hac.same (W := wr) fun i => hle.out.cell (p := ⟨b, i, none⟩) hb
        have hin := pf_n_InTurn _ _ wr (hta.le hle.out)
        rw [he] at hin
        have hstep := armOk_last hok.out
        have hwit := fun n lo hi W => pf_within_barleycornref02 n lo hi W
        generalize hKK : (l.getD k default).k = kk at a0 hk1 hk2 hstep
        generalize hYC : (l.getD k default).c = yc at hin hstep
        clear hac
        have i1 : (k : Int) < (l.length : Int) := by omega
        have i2 : (0 : Int) ≤ (k : Int) := by omega
        have hbz : b < wr.heap.size := Nat.lt_of_lt_of_le hb hle.out.size
        have hcell0 := fun (W : World) (h : Le wr W) => (h.cell (p := ⟨b, off + k * 9, none⟩) hbz).trans a0
        have hgoal : (lastK l k < kk ∧ kk ≤ 64 ∧ ∃ g, tval yc = some g ∧ gnorm g ≠ 0) → (∀ j, j < k + 1 → armOk l j = true) := fun h j hj => by
          by_cases hjk : j = k
          · rw [hjk]; exact hstep.2 h
          · exact hok.out j (by omega)
        have hbad : ¬ (lastK l k < kk ∧ kk ≤ 64 ∧ ∃ g, tval yc = some g ∧ gnorm g ≠ 0) → E = 20 := fun h => eNo'.out (pathOk_bad hlt (by
          rw [Bool.eq_false_iff]
          exact fun hc => h (hstep.1 hc)))
        have hin' := Lib.hid hin
        have hstep' := Lib.hid hstep
        have hKK' := Lib.hid hKK
        have hYC' := Lib.hid hYC
        have hcell0' := Lib.hid hcell0
        have hgoal' := Lib.hid hgoal
        have hbad' := Lib.hid hbad
        have he' := Lib.hid he
        clear he hbad hgoal hcell0 hYC hKK hstep hin
        go_wp2_with (fail)
        go_at_call 82
        refine hin'.out.mono ?_
        rintro e w1 ⟨hle1, vq, rfl, hform, hval⟩
        obtain ⟨x1, X1, y1, z1, X2, y2, z2, x3, X3, y3, z3, X4, y4, z4, rfl⟩ := hform
        obtain ⟨W2, hW2, hle2, kZ⟩ : ∃ W2, w1.alloc (.cells #[.bool x1, .slice X1 y1 z1, .slice X2 y2 z2, .bool x3, .slice X3 y3 z3, .slice X4 y4 z4] 114) = W2 ∧ Le w1 W2 ∧ W2.heap[w1.heap.size]? = some (.cells #[.bool x1, .slice X1 y1 z1, .slice X2 y2 z2, .bool x3, .slice X3 y3 z3, .slice X4 y4 z4] 114) := ⟨_, rfl, le_alloc _ _, alc_at _ _⟩
        have hle02 := hle1.trans hle2
        clear a0 a1 a2 a3 a4 a5 a6 a7 a8
        obtain ⟨ι, fam, hne, hf1, hf2, hf0⟩ := fam_below _ W2 (Nat.le_refl _)
        have hfl := fun n => hle02.trans (hf1 n)
        have c0 := fun n => hcell0'.out _ (hfl n)
        have Z := fun n => cells6 ((Below.block (hf1 n) _ (Array.getElem?_eq_some_iff.1 kZ).1).trans kZ)
        have Z0 := fun n => (Z n).1
        have Z1 := fun n => (Z n).2.1
        have Z2 := fun n => (Z n).2.2.1
        have Z3 := fun n => (Z n).2.2.2.1
        have Z4 := fun n => (Z n).2.2.2.2.1
        have Z5 := fun n => (Z n).2.2.2.2.2
        clear Z
        rcases tval_cases yc with ⟨g, hg⟩ | hg
        · rw [hg]
          have hnil := fun n => pf_n_Nil g _ (fam n) ((hval g hg).le (hle2.trans (hf1 n)))
          obtain ⟨bz, hbzz⟩ : ∃ b, decide (gnorm g = 0) = b := ⟨_, rfl⟩
          rw [hbzz] at hnil
          simp only [Option.isSome_some]
          have hval' := Lib.hid hval
          have hf1' := Lib.hid hf1
          have hf2' := Lib.hid hf2
          have hf0' := Lib.hid hf0
          have hfl' := Lib.hid hfl
          have kZ' := Lib.hid kZ
          have hle1' := Lib.hid hle1
          have hle2' := Lib.hid hle2
          have hle02' := Lib.hid hle02
          have hg' := Lib.hid hg
          have hnil' := Lib.hid hnil
          have hbzz' := Lib.hid hbzz
          clear hbzz hnil hg hle02 hle2 hle1 kZ hfl hf0 hf2 hf1 hval
          cases bz with
          | true =>
            go_wp2_with (fail)
            clear hW2
            refine wp_region_fam hf0'.out (by kernel_rfl) (by kernel_rfl) ?_
            repeat (go_big_quiet_step ((go_at_call 83; exact fam_call hf2'.out (famLe (hnil'.out _)))))
            refine wpQuiet_nil ?_
            intro nq
            obtain rfl := hbad'.out (by
              rintro ⟨-, -, g', q1, q2⟩
              rw [hg'.out] at q1
              injection q1 with q1
              subst q1
              exact q2 (by have := hbzz'.out; simpa using this))
            have hend := hfl'.out nq
            generalize fam nq = W9 at hend ⊢
            have hend' := Lib.hid hend
            clear hend
            go_wp2
            go_ret
            exact ⟨rfl, hle.out.trans hend'.out⟩
          | false =>
            have hgn : gnorm g ≠ 0 := by have := hbzz'.out; simpa using this
            by_cases hin2 : -64 ≤ kk ∧ kk ≤ 64
            · have hw : within kk (-64) 64 = true := within_iff.2 hin2
              have hwc : ∀ n, Calls Tryz.prog 15 #[.int .i64 kk, .int .i64 (-64), .int .i64 64] (fam n) fun e w' => e = .returned (.bool true) ∧ ∃ m, w' = fam m := fun n => fam_same (by have := pf_within_barleycornref02 kk (-64) 64 (fam n); rwa [hw] at this)
              have hwc' := Lib.hid hwc
              have hw' := Lib.hid hw
              clear hw hwc
              rcases (show k = 0 ∨ 0 < k by omega) with hk0 | hk0
              · subst hk0
                simp only [Nat.zero_mul, Nat.add_zero] at c0
                have hgood := hgoal'.out ⟨(show (-65 : Int) < kk by omega), hin2.2, g, hg'.out, hgn⟩
                have hgood' := Lib.hid hgood
                clear hgood
                go_wp2_with (fail)
                clear hW2
                refine wp_region_fam hf0'.out (by kernel_rfl) (by kernel_rfl) ?_
                repeat (go_big_quiet_step (first | (go_at_call 83; exact fam_call hf2'.out (famLe (hnil'.out _))) | (go_at_call 15; exact hwc'.out _)))
                refine wpQuiet_nil ?_
                intro nq
                have hend := hfl'.out nq
                generalize fam nq = W9 at hend ⊢
                have hend' := Lib.hid hend
                clear hend
                go_wp2
                go_roundw
                case rel => exact ⟨0 + 1, by omega, by go_num, Lib.hid (hle.out.trans hend'.out), Lib.hid (hgood'.out)⟩
                case measure => simp [intOf]; omega
              · obtain ⟨m, rfl⟩ : ∃ m, k = m + 1 := ⟨k - 1, by omega⟩
                obtain ⟨b', off', c'', heq, -, hb', hac, -, hm1, hm2⟩ := arm_at hvv'.out (show m < l.length by omega)
                injection heq with q1 q2 q3
                injection q1 with q1
                injection q1 with q1 q4
                subst q1 q4
                clear q2 q3
                obtain ⟨-, -, -, -, -, -, -, -, -, -, -, -, -, -, -, -, -, p0, -⟩ := hac.same (W := wr) fun i => hle.out.cell (p := ⟨b, i, none⟩) hb'
                have hlast : lastK l (m + 1) = (l.getD m default).k := rfl
                rw [hlast] at hgoal' hbad'
                generalize (l.getD m default).k = kp at p0 hm1 hm2 hgoal' hbad'
                have p1 := fun n => ((hfl'.out n).cell (p := ⟨b, off + m * 9, none⟩) hbz).trans p0
                have j1 : IntKind.i64.wrap (((m + 1 : Nat) : Int) - 1) = (m : Int) := by rw [IntWalk.i64_in _ (by omega)]; omega
                have j2 : (m : Int) < (l.length : Int) := by omega
                have j3 : (0 : Int) ≤ (m : Int) := by omega
                have j4 : (0 : Int) < ((m + 1 : Nat) : Int) := by omega
                have j5 : 0 < m + 1 := by omega
                have j6 : m < l.length := by omega
                clear p0 hac hlast
                by_cases hle2' : kk ≤ kp
                · have hle3 : ¬ kp < kk := by omega
                  go_wp2_with (fail)
                  clear hW2
                  refine wp_region_fam hf0'.out (by kernel_rfl) (by kernel_rfl) ?_
                  repeat (go_big_quiet_step (first | (go_at_call 83; exact fam_call hf2'.out (famLe (hnil'.out _))) | (go_at_call 15; exact hwc'.out _)))
                  refine wpQuiet_nil ?_
                  intro nq
                  obtain rfl := hbad'.out (by rintro ⟨q1, -⟩; omega)
                  have hend := hfl'.out nq
                  generalize fam nq = W9 at hend ⊢
                  have hend' := Lib.hid hend
                  clear hend
                  go_wp2
                  go_ret
                  exact ⟨rfl, hle.out.trans hend'.out⟩
                · have hle3 : kp < kk := by omega
                  have hgood := hgoal'.out ⟨hle3, hin2.2, g, hg'.out, hgn⟩
                  have hgood' := Lib.hid hgood
                  clear hgood
                  go_wp2_with (fail)
                  clear hW2
                  refine wp_region_fam hf0'.out (by kernel_rfl) (by kernel_rfl) ?_
                  repeat (go_big_quiet_step (first | (go_at_call 83; exact fam_call hf2'.out (famLe (hnil'.out _))) | (go_at_call 15; exact hwc'.out _)))
                  refine wpQuiet_nil ?_
                  intro nq
                  have hend := hfl'.out nq
                  generalize fam nq = W9 at hend ⊢
                  have hend' := Lib.hid hend
                  clear hend
                  go_wp2
                  go_roundw
                  case rel => exact ⟨m + 1 + 1, by omega, by go_num, Lib.hid (hle.out.trans hend'.out), Lib.hid (hgood'.out)⟩
                  case measure => simp [intOf]; omega
            · have hw : within kk (-64) 64 = false := by rw [← Bool.not_eq_true, within_iff]; exact hin2
              have hwc : ∀ n, Calls Tryz.prog 15 #[.int .i64 kk, .int .i64 (-64), .int .i64 64] (fam n) fun e w' => e = .returned (.bool false) ∧ ∃ m, w' = fam m := fun n => fam_same (by have := pf_within_barleycornref02 kk (-64) 64 (fam n); rwa [hw] at this)
              have hwc' := Lib.hid hwc
              have hw' := Lib.hid hw
              clear hw hwc
              go_wp2_with (fail)
              clear hW2
              refine wp_region_fam hf0'.out (by kernel_rfl) (by kernel_rfl) ?_
              repeat (go_big_quiet_step (first | (go_at_call 83; exact fam_call hf2'.out (famLe (hnil'.out _))) | (go_at_call 15; exact hwc'.out _)))
              refine wpQuiet_nil ?_
              intro nq
              obtain rfl := hbad'.out (by
                rintro ⟨q1, q2, -⟩
                refine hin2 ⟨?_, q2⟩
                by_cases hk0 : k = 0
                · subst hk0
                  have : (-65 : Int) < kk := q1
                  omega
                · obtain ⟨m, rfl⟩ : ∃ m, k = m + 1 := ⟨k - 1, by omega⟩
                  have h3 : (l.getD m default).k < kk := q1
                  obtain ⟨_, -, -, h4, -, -⟩ := armOk_parts (hok.out m (by omega))
                  omega)
              have hend := hfl'.out nq
              generalize fam nq = W9 at hend ⊢
              have hend' := Lib.hid hend
              clear hend
              go_wp2
              go_ret
              exact ⟨rfl, hle.out.trans hend'.out⟩
        · rw [hg]
          simp only [Option.isSome_none]
          have hval' := Lib.hid hval
          have hf1' := Lib.hid hf1
          have hf2' := Lib.hid hf2
          have hf0' := Lib.hid hf0
          have hfl' := Lib.hid hfl
          have kZ' := Lib.hid kZ
          have hle1' := Lib.hid hle1
          have hle2' := Lib.hid hle2
          have hle02' := Lib.hid hle02
          clear hle02 hle2 hle1 kZ hfl hf0 hf2 hf1 hval
          go_wp2_with (fail)
          clear hW2
          refine wp_region_fam hf0'.out (by kernel_rfl) (by kernel_rfl) ?_
          repeat (go_big_quiet_step (fail))
          refine wpQuiet_nil ?_
          intro nq
          obtain rfl := hbad'.out (by rintro ⟨-, -, g, q1, -⟩; rw [hg] at q1; cases q1)
          have hend := hfl'.out nq
          generalize fam nq = W9 at hend ⊢
          have hend' := Lib.hid hend
          clear hend
          go_wp2
          go_ret
          exact ⟨rfl, hle.out.trans hend'.out⟩
      · obtain rfl : k = l.length := by omega
        have hp : pathOk l = true := (allB_iff _ _).2 hok.out
        obtain rfl := eOk'.out hp
        have hp' := Lib.hid hp
        clear hp
        go_wp2
        go_ret
        exact ⟨rfl, hle.out⟩
end Go.Proofs.YtbikpadjmmgpcaaGreat
namespace Go.Proofs.YtbikpadjmmgpcaaGreat
open Go.RowKit Go.Shelf
set_option linter.unusedVariables false
set_option linter.unusedSimpArgs false
attribute [local go_sem] Oper.semAt_some
attribute [local go_sem ↓] Go.wp_at_zero Go.wp_at_succ
set_option maxRecDepth 100000 in
set_option maxHeartbeats 4000000 in
theorem pf_n_Pace (l : List ArmA) (v : Value) (w : World) (hv : ArmsL w v l) (hok : pathOk l = true) (hlen : l.length ≤ 24) (h1 : 1 ≤ l.length) :
    Calls Tryz.prog 58 #[v] w fun e w' => e = .returned (.int .i64 (paceN l l.length : Nat)) ∧ ∃ n, w' = w.drewN n := by
  obtain ⟨tv, hvv⟩ := hv.vals
  have hvv' := Lib.hid hvv
  obtain ⟨b, off, c, rfl, hcm, hb, hc0⟩ := arm_first hvv (by omega)
  unfold maxLen at hcm
  have hk0 := pathOk_k hok (show 0 < l.length by omega)
  obtain ⟨K0, hK0⟩ : ∃ K0, (l.getD 0 default).k = K0 := ⟨_, rfl⟩
  rw [hK0] at hc0 hk0
  have hnext : ∀ k, Nat.gcd (paceN l k) ((l.getD k default).k - K0).natAbs = paceN l (k + 1) := fun k => by rw [← hK0]; rfl
  have hle := fun k hk => paceN_le hok k hk
  have hone : paceN l 1 = 0 := paceN_one l
  have i0 : (0 : Int) < (l.length : Int) := by omega
  have i9 : 0 < l.length := by omega
  clear hvv
  have hv' := Lib.hid hv
  have hK0' := Lib.hid hK0
  have hnext' := Lib.hid hnext
  have hle' := Lib.hid hle
  have hok' := Lib.hid hok
  have hone' := Lib.hid hone
  clear hone hok hle hnext hK0 hv
  go_enter Tryz.func58, Tryz.ntmps58
  go_wp2
  go_loopw [3, 4] (fun g i wr => ∃ k : Nat, 1 ≤ k ∧ k ≤ l.length ∧ i = .int .i64 k ∧ g = .int .i64 (paceN l k : Nat) ∧ Hid (∃ n, wr = w.drewN n)) (fun _ i _ => l.length - (intOf i).toNat)
  case atStart => exact ⟨1, Nat.le_refl _, h1, rfl, by rw [hone'.out]; rfl, Lib.hid ⟨0, rfl⟩⟩
  case round =>
    obtain ⟨k, hk1, hk, rfl, rfl, hdr⟩ := hrel
    obtain ⟨nd, hnd⟩ := hdr.out
    have hsame : ∀ a, wr.cell? a = w.cell? a := fun a => by rw [hnd]; rfl
    by_cases hlt : k < l.length
    · obtain ⟨b', off', c', heq, -, hb', hac, -, hm1, hm2⟩ := arm_at hvv'.out hlt
      injection heq with q1 q2 q3
      injection q1 with q1
      injection q1 with q1 q4
      subst q1 q4
      clear q2 q3
      obtain ⟨-, -, -, -, -, -, -, -, -, -, -, -, -, -, -, -, -, p0, -⟩ := hac.same (W := wr) fun i => hsame _
      have p1 : wr.cell? ⟨b, off, none⟩ = some (.int .i64 K0) := (hsame _).trans hc0
      have hk2 := pathOk_k hok'.out hlt
      have hg := hnext'.out k
      have hP := hle'.out k hk
      generalize (l.getD k default).k = kk at p0 hk2 hg
      generalize paceN l k = P at hg hP ⊢
      generalize hQ : paceN l (k + 1) = Q at hg
      have hsub : IntKind.i64.wrap (kk - K0) = kk - K0 := IntWalk.i64_in _ (by omega)
      have hgc : ∀ W, Calls Tryz.prog 33 #[.int .i64 (P : Int), .int .i64 (kk - K0)] W fun e w' => e = .returned (.int .i64 (Q : Int)) ∧ W = w' := fun W => by
        have := pf_r2_gcdI (P : Int) (kk - K0) W (by omega) (by omega)
        rw [Int.natAbs_natCast, hg] at this
        exact this
      have i1 : (k : Int) < (l.length : Int) := by omega
      have i2 : (0 : Int) ≤ (k : Int) := by omega
      clear hm1 hm2 hsame hc0
      have hnd' := Lib.hid hnd
      have hQ' := Lib.hid hQ
      have hg' := Lib.hid hg
      have hgc' := Lib.hid hgc
      have hP' := Lib.hid hP
      clear hP hgc hg hQ hnd
      go_wp2
      go_quiet ((go_at_call 33; exact Calls.quiet_of_same ((hgc'.out _).mono fun _ _ ⟨h1, h2⟩ => ⟨h1, h2.symm⟩)))
      go_wp2
      go_roundw
      case rel => exact ⟨k + 1, by omega, by omega, by go_num, by rw [hQ'.out], Lib.hid (by rw [hnd'.out]; exact ⟨_, World.drewN_drewN _ _ _⟩)⟩
      case measure => simp [intOf]; omega
    · obtain rfl : k = l.length := by omega
      have hnd' := Lib.hid hnd
      have hsame' := Lib.hid hsame
      clear hsame hnd
      go_wp2
      go_ret
      exact ⟨rfl, nd, hnd'.out⟩
set_option maxRecDepth 100000 in
set_option maxHeartbeats 4000000 in
theorem pf_n_OrderP (l : List ArmA) (v : Value) (w : World) (hv : ArmsL w v l) :
    Calls Tryz.prog 32 #[v] w fun e w' => e = .returned (.tuple #[.int .i64 (ordR l), .int .i64 (pathE l)]) ∧ Le w w' := by
  obtain ⟨tv, hvv⟩ := hv.vals
  have hcp := pf_n_CheckPath l v w hv
  rcases pathE_cases l with ⟨h0, hlen, hok⟩ | ⟨h0, -⟩
  · rw [ordR_ok h0, h0]
    rw [h0] at hcp
    rcases (show l.length = 0 ∨ l.length = 1 ∨ 2 ≤ l.length by omega) with h1 | h1 | h1
    · have ho : orderV l = 0 := by unfold orderV; rw [if_pos h1]
      rw [ho]
      obtain ⟨A, c, rfl, -⟩ := hvv
      rw [h1] at hcp ⊢
      have hcp' := Lib.hid hcp
      have ho' := Lib.hid ho
      have h1' := Lib.hid h1
      have h0' := Lib.hid h0
      have hok' := Lib.hid hok
      have hlen' := Lib.hid hlen
      clear hlen hok h0 h1 ho hcp
      go_enter Tryz.func32, Tryz.ntmps32
      go_wp2_with (first | (go_at_call 57; ((with_reducible refine (hcp'.out).mono ?_); rintro e w' ⟨rfl, hle1⟩)))
      go_ret2
      exact ⟨rfl, hle1⟩
    · obtain ⟨b, off, c, rfl, hcm, hb, hc0⟩ := arm_first hvv (by omega)
      unfold maxLen at hcm
      rw [h1] at hcp ⊢
      by_cases hk : (l.getD 0 default).k = 0
      · have ho : orderV l = 1 := by unfold orderV; rw [if_neg (by omega), if_pos h1, if_pos hk]
        rw [ho]
        rw [hk] at hc0
        have hcp' := Lib.hid hcp
        have ho' := Lib.hid ho
        have h1' := Lib.hid h1
        have h0' := Lib.hid h0
        have hok' := Lib.hid hok
        have hlen' := Lib.hid hlen
        have hk' := Lib.hid hk
        clear hk hlen hok h0 h1 ho hcp
        go_enter Tryz.func32, Tryz.ntmps32
        go_wp2_with (fail)
        go_at_call 57
        refine hcp'.out.mono ?_
        rintro e w1 ⟨rfl, hle1⟩
        have hc1 := (hle1.cell (p := ⟨b, off, none⟩) hb).trans hc0
        have hle1' := Lib.hid hle1
        clear hle1
        go_wp2
        go_ret2
        exact ⟨rfl, hle1'.out⟩
      · have ho : orderV l = 0 := by unfold orderV; rw [if_neg (by omega), if_pos h1, if_neg hk]
        rw [ho]
        generalize (l.getD 0 default).k = k0 at hc0 hk
        have hk2 : (k0 == 0) = false := by simpa using hk
        have hcp' := Lib.hid hcp
        have ho' := Lib.hid ho
        have h1' := Lib.hid h1
        have h0' := Lib.hid h0
        have hok' := Lib.hid hok
        have hlen' := Lib.hid hlen
        clear hlen hok h0 h1 ho hcp
        go_enter Tryz.func32, Tryz.ntmps32
        go_wp2_with (fail)
        go_at_call 57
        refine hcp'.out.mono ?_
        rintro e w1 ⟨rfl, hle1⟩
        have hc1 := (hle1.cell (p := ⟨b, off, none⟩) hb).trans hc0
        have hle1' := Lib.hid hle1
        clear hle1
        go_wp2
        go_ret2
        exact ⟨rfl, hle1'.out⟩
    · obtain ⟨b, off, c, rfl, hcm, hb, hc0⟩ := arm_first hvv (by omega)
      unfold maxLen at hcm
      obtain ⟨P, hP⟩ : ∃ P, paceN l l.length = P := ⟨_, rfl⟩
      have hPp : 0 < P := by rw [← hP]; exact paceN_pos hok h1
      have hPb : P ≤ 128 := by rw [← hP]; exact paceN_le hok _ (Nat.le_refl _)
      obtain ⟨G, hG⟩ : ∃ G, Nat.gcd P (l.getD 0 default).k.natAbs = G := ⟨_, rfl⟩
      have hGp : 0 < G := by rw [← hG]; exact Nat.gcd_pos_of_pos_left _ hPp
      have ho : orderV l = P / G := by unfold orderV; rw [if_neg (by omega), if_neg (by omega), hP, hG]
      obtain ⟨R, hR⟩ : ∃ R, P / G = R := ⟨_, rfl⟩
      have hRb : R ≤ 128 := by rw [← hR]; exact Nat.le_trans (Nat.div_le_self _ _) hPb
      rw [ho, hR]
      have hk := pathOk_k hok (show 0 < l.length by omega)
      generalize (l.getD 0 default).k = k0 at hc0 hG hk
      have hst : ∀ W, Le w W → Calls Tryz.prog 58 #[.slice (some ⟨b, off, none⟩) l.length c] W fun e w' => e = .returned (.int .i64 (P : Int)) ∧ ∃ n, w' = W.drewN n := fun W h => by
        have := pf_n_Pace l _ W (hv.le h) hok hlen (by omega)
        rw [hP] at this
        exact this
      have hgc : ∀ W, Calls Tryz.prog 33 #[.int .i64 (P : Int), .int .i64 k0] W fun e w' => e = .returned (.int .i64 (G : Int)) ∧ W = w' := fun W => by
        have := pf_r2_gcdI (P : Int) k0 W (by omega) (by omega)
        rw [Int.natAbs_natCast, hG] at this
        exact this
      have hG1 : ((G : Int) == 0) = false := by simp; omega
      have hG2 : ¬ (G : Int) = 0 := by omega
      have hdiv : (P : Int) / (G : Int) = (R : Int) := by rw [← hR]; simp
      have hdiv2 : (P : Int).tdiv (G : Int) = (R : Int) := by rw [Int.tdiv_eq_ediv_of_nonneg (by omega)]; exact hdiv
      have hl1 : ((l.length : Int) == 1) = false := by simp; omega
      have hl0 : ((l.length : Int) == 0) = false := by rw [Bool.eq_false_iff]; intro h; simp at h; rw [h] at h1; simp at h1
      have hl4 : (0 : Int) < (l.length : Int) := by omega
      have hl5 : ¬ l.length = 1 := by omega
      have hl6 : ¬ l.length = 0 := by omega
      have hl7 : 0 < l.length := by omega
      have hcp' := Lib.hid hcp
      have ho' := Lib.hid ho
      have h0' := Lib.hid h0
      have hok' := Lib.hid hok
      have hlen' := Lib.hid hlen
      have hP' := Lib.hid hP
      have hG' := Lib.hid hG
      have hR' := Lib.hid hR
      have hst' := Lib.hid hst
      have hgc' := Lib.hid hgc
      clear hgc hst hR hG hP hlen hok h0 ho hcp
      go_enter Tryz.func32, Tryz.ntmps32
      go_wp2_with (fail)
      go_at_call 57
      refine hcp'.out.mono ?_
      rintro e w1 ⟨rfl, hle1⟩
      have hle1' := Lib.hid hle1
      clear hle1
      go_wp2_with (fail)
      go_at_call 58
      refine (hst'.out w1 hle1'.out).mono ?_
      rintro e w2 ⟨rfl, n, rfl⟩
      have hc2 : w1.cell? ⟨b, off, none⟩ = _ := (hle1'.out.cell (p := ⟨b, off, none⟩) hb).trans hc0
      go_wp2_with (first | (go_at_call 33; ((with_reducible refine (hgc'.out _).mono ?_); rintro e w' ⟨rfl, rfl⟩)))
      go_ret2
      exact ⟨rfl, hle1'.out.trans (Below.of_drewN _ _)⟩
  · rw [ordR_bad h0]
    obtain ⟨A, c, rfl, -⟩ := hvv
    have hE : (pathE l != 0) = true := by simpa using h0
    have hE2 : (pathE l == 0) = false := by simpa using h0
    generalize pathE l = E at hcp h0 hE hE2 ⊢
    have hcp' := Lib.hid hcp
    clear hcp
    go_enter Tryz.func32, Tryz.ntmps32
    go_wp2_with (first | (go_at_call 57; ((with_reducible refine (hcp'.out).mono ?_); rintro e w' ⟨rfl, hle1⟩)))
    go_ret2
    exact ⟨rfl, hle1⟩
set_option maxRecDepth 100000 in
set_option maxHeartbeats 4000000 in
theorem pf_n_AroundP (l : List ArmA) (v : Value) (n : Int) (w : World) (hv : ArmsL w v l) :
    Calls Tryz.prog 10 #[v, .int .i64 n] w fun e w' => e = .returned (.tuple #[.int .i64 (aroundV l n).1, .int .i64 (aroundV l n).2]) ∧ Le w w' := by
  obtain ⟨tv, hvv⟩ := hv.vals
  have hcp := pf_n_OrderP l v w hv
  obtain ⟨A, c, rfl, -⟩ := hvv
  by_cases h0 : pathE l = 0
  · rw [ordR_ok h0, h0] at hcp
    by_cases hn : 1 ≤ n ∧ n ≤ 1000
    · have hwn : within n 1 1000 = true := within_iff.2 hn
      obtain ⟨N, rfl⟩ : ∃ N : Nat, n = (N : Int) := ⟨n.toNat, by omega⟩
      by_cases ho : orderV l = 0
      · have hv1 : aroundV l (N : Int) = (1, 0) := by unfold aroundV; rw [if_neg (by simp [h0]), if_neg (by simp; omega), if_pos ho]
        rw [hv1]
        rw [ho] at hcp
        have hcp' := Lib.hid hcp
        have hv1' := Lib.hid hv1
        have ho' := Lib.hid ho
        have h0' := Lib.hid h0
        clear h0 ho hv1 hcp
        go_enter Tryz.func10, Tryz.ntmps10
        go_wp2_with (first | (go_at_call 32; ((with_reducible refine (hcp'.out).mono ?_); rintro e w' ⟨rfl, hle1⟩)) | (go_at_call 22; ((with_reducible refine (pf_within_barleycornref04 _ _ _ _).mono ?_); rintro e w' ⟨rfl, rfl⟩; rw [hwn])))
        go_ret2
        exact ⟨rfl, hle1⟩
      · obtain ⟨O, hO⟩ : ∃ O, orderV l = O := ⟨_, rfl⟩
        obtain ⟨G, hG⟩ : ∃ G, Nat.gcd N O = G := ⟨_, rfl⟩
        obtain ⟨R, hR⟩ : ∃ R, N / G = R := ⟨_, rfl⟩
        have hv1 : aroundV l (N : Int) = ((R : Int), 0) := by unfold aroundV; rw [if_neg (by simp [h0]), if_neg (by simp; omega), if_neg ho, hO, Int.toNat_natCast, hG, hR]
        rw [hv1]
        have hRb : R ≤ 1000 := by rw [← hR]; exact Nat.le_trans (Nat.div_le_self _ _) (by omega)
        rw [hO] at hcp ho
        have hOb : O ≤ 1000000 := by rw [← hO]; exact orderV_le h0
        have hGp : 0 < G := by rw [← hG]; exact Nat.gcd_pos_of_pos_left _ (by omega)
        have hgc : ∀ W, Calls Tryz.prog 33 #[.int .i64 (N : Int), .int .i64 (O : Int)] W fun e w' => e = .returned (.int .i64 (G : Int)) ∧ W = w' := fun W => by
          have := pf_r2_gcdI (N : Int) (O : Int) W (by omega) (by omega)
          rw [Int.natAbs_natCast, Int.natAbs_natCast, hG] at this
          exact this
        have hG1 : ((G : Int) == 0) = false := by simp; omega
        have hG2 : ¬ (G : Int) = 0 := by omega
        have hdiv : (N : Int) / (G : Int) = (R : Int) := by rw [← hR]; simp
        have hdiv2 : (N : Int).tdiv (G : Int) = (R : Int) := by rw [Int.tdiv_eq_ediv_of_nonneg (by omega)]; exact hdiv
        have hO1 : ((O : Int) == 0) = false := by simp; omega
        have hO2 : ¬ O = 0 := ho
        have hcp' := Lib.hid hcp
        have hv1' := Lib.hid hv1
        have h0' := Lib.hid h0
        have hO' := Lib.hid hO
        have hG' := Lib.hid hG
        have hR' := Lib.hid hR
        have hgc' := Lib.hid hgc
        clear hgc hR hG hO h0 hv1 hcp
        go_enter Tryz.func10, Tryz.ntmps10
        go_wp2_with (first | (go_at_call 32; ((with_reducible refine (hcp'.out).mono ?_); rintro e w' ⟨rfl, hle1⟩)) | (go_at_call 22; ((with_reducible refine (pf_within_barleycornref04 _ _ _ _).mono ?_); rintro e w' ⟨rfl, rfl⟩; rw [hwn])) | (go_at_call 33; ((with_reducible refine (hgc'.out _).mono ?_); rintro e w' ⟨rfl, rfl⟩)))
        go_ret2
        exact ⟨rfl, hle1⟩
    · have hwn : within n 1 1000 = false := by rw [← Bool.not_eq_true, within_iff]; exact hn
      have hv1 : aroundV l n = (0, 2) := by unfold aroundV; rw [if_neg (by simp [h0]), if_pos hn]
      rw [hv1]
      generalize orderV l = O at hcp
      have hcp' := Lib.hid hcp
      have hv1' := Lib.hid hv1
      have h0' := Lib.hid h0
      clear h0 hv1 hcp
      go_enter Tryz.func10, Tryz.ntmps10
      go_wp2_with (first | (go_at_call 32; ((with_reducible refine (hcp'.out).mono ?_); rintro e w' ⟨rfl, hle1⟩)) | (go_at_call 22; ((with_reducible refine (pf_within_barleycornref04 _ _ _ _).mono ?_); rintro e w' ⟨rfl, rfl⟩; rw [hwn])))
      go_ret2
      exact ⟨rfl, hle1⟩
  · have hv1 : aroundV l n = (0, pathE l) := by unfold aroundV; rw [if_pos h0]
    rw [hv1]
    rw [ordR_bad h0] at hcp
    have hE : (pathE l != 0) = true := by simpa using h0
    have hE2 : (pathE l == 0) = false := by simpa using h0
    generalize pathE l = E at hcp h0 hE hE2 ⊢
    have hcp' := Lib.hid hcp
    have hv1' := Lib.hid hv1
    clear hv1 hcp
    go_enter Tryz.func10, Tryz.ntmps10
    go_wp2_with (first | (go_at_call 32; ((with_reducible refine (hcp'.out).mono ?_); rintro e w' ⟨rfl, hle1⟩)))
    go_ret2
    exact ⟨rfl, hle1⟩
/-- Arm j is greater than a statement speaks of. -/
def armGreat (l : List ArmA) (g t : Nat) (j : Nat) : Bool := greatT (l.getD j default).c g || (within (l.getD j default).k ((t : Int) + 1) 64 || within (l.getD j default).k (-64) (-(t : Int) - 1))
def pathGreat (l : List ArmA) (m g t : Nat) : Bool := (decide (m < l.length) && decide (l.length ≠ 25)) || someB (armGreat l g t) l.length
set_option maxRecDepth 100000 in
set_option maxHeartbeats 4000000 in
theorem pf_n_GreatP (l : List ArmA) (m g t : Nat) (v : Value) (w : World) (hv : ArmsL w v l) (hm : m ≤ 1000) (hg : g ≤ 1000) (ht : t ≤ 1000) :
    Calls Tryz.prog 4 #[v, .int .i64 m, .int .i64 g, .int .i64 t] w fun e w' => e = .returned (.bool (pathGreat l m g t)) ∧ Le w w' := by
  obtain ⟨tv, hvv⟩ := hv.vals
  have hvv' := Lib.hid hvv
  obtain ⟨A, c, rfl, hlc, hcm, -⟩ := hvv
  unfold maxLen at hcm
  obtain ⟨R, hR⟩ : ∃ R, pathGreat l m g t = R := ⟨_, rfl⟩
  rw [hR]
  unfold pathGreat at hR
  by_cases hbig : m < l.length ∧ l.length ≠ 25
  · have hRt : R = true := by rw [← hR]; simp [hbig]
    subst hRt
    obtain ⟨b1, b2⟩ := hbig
    have e1 : (m : Int) < (l.length : Int) := by omega
    have e2 : ((l.length : Int) == 25) = false := by simp; omega
    have e3 : ((l.length : Int) != 25) = true := by simp; omega
    have hR' := Lib.hid hR
    have hv' := Lib.hid hv
    clear hv hR
    go_enter Tryz.func4, Tryz.ntmps4
    go_wp2
    go_ret
    exact ⟨rfl, Le.refl _⟩
  · have hRs : R = someB (armGreat l g t) l.length := by
      rw [← hR]
      have : (decide (m < l.length) && decide (l.length ≠ 25)) = false := by simp only [Bool.and_eq_false_iff, decide_eq_false_iff_not]; omega
      rw [this, Bool.false_or]
    have hyes : ∀ j, j < l.length → armGreat l g t j = true → R = true := fun j h1 h2 => by rw [hRs]; exact (someB_iff _ _).2 ⟨j, h1, h2⟩
    have hno : (∀ j, j < l.length → armGreat l g t j = false) → R = false := fun h => by
      rw [hRs, ← Bool.not_eq_true, someB_iff]
      rintro ⟨j, h1, h2⟩
      rw [h j h1] at h2
      cases h2
    have main : ∀ T : Array Value, (∃ u : Nat → Value, True) → True := fun _ _ => trivial
    clear main
    have h25 : m < l.length → l.length = 25 := fun h => by
      rcases Nat.lt_or_ge m l.length with h' | h'
      · exact Decidable.byContradiction fun hc => hbig ⟨h', hc⟩
      · omega
    have hN : (¬ m < l.length) ∨ (m < l.length ∧ l.length = 25) := by
      by_cases h' : m < l.length
      · exact .inr ⟨h', h25 h'⟩
      · exact .inl h'
    clear h25 hbig
    rcases hN with hN | ⟨hN1, hN2⟩
    all_goals
      try
        have e1 : (m : Int) < (l.length : Int) := by omega
        have e2 : ((l.length : Int) != 25) = false := by simp; omega
        have e3 : ((l.length : Int) == 25) = true := by simp; omega
        have hN2' := Lib.hid hN2
        clear hN2
      have hR' := Lib.hid hR
      have hv' := Lib.hid hv
      have hRs' := Lib.hid hRs
      have hyes' := Lib.hid hyes
      have hno' := Lib.hid hno
      clear hno hyes hRs hv hR
      go_enter Tryz.func4, Tryz.ntmps4
      go_wp2
      go_loopw [9] (fun i wr => ∃ k : Nat, k ≤ l.length ∧ i = .int .i64 k ∧ Hid (Le w wr) ∧ Hid (∀ j, j < k → armGreat l g t j = false)) (fun i _ => l.length - (intOf i).toNat)
      case atStart => exact ⟨0, Nat.zero_le _, rfl, Lib.hid (Le.refl _), Lib.hid (fun j h => absurd h (Nat.not_lt_zero j))⟩
      case round =>
        obtain ⟨k, hk, rfl, hle, hok⟩ := hrel
        by_cases hlt : k < l.length
        · obtain ⟨b, off, c', heq, -, hb, hac, hta, hk1, hk2⟩ := arm_at hvv'.out hlt
          injection heq with q1 q2 q3
          subst q1 q3
          clear q2
          obtain ⟨s1, A1, n1, c1, t1, B1, m1, d1, s2, A2, n2, c2, t2, B2, m2, d2, he, a0, a1, a2, a3, a4, a5, a6, a7, a8⟩ := hac.same (W := wr) fun i => hle.out.cell (p := ⟨b, i, none⟩) hb
          have hgt := pf_n_GreatTurn (l.getD k default).c g _ wr (by omega) (hta.le hle.out)
          rw [he] at hgt
          obtain ⟨x1, hx1⟩ : ∃ x, greatT (l.getD k default).c g = x := ⟨_, rfl⟩
          obtain ⟨x2, hx2⟩ : ∃ x, within (l.getD k default).k ((t : Int) + 1) 64 = x := ⟨_, rfl⟩
          obtain ⟨x3, hx3⟩ : ∃ x, within (l.getD k default).k (-64) (-(t : Int) - 1) = x := ⟨_, rfl⟩
          have hval : armGreat l g t k = (x1 || (x2 || x3)) := by unfold armGreat; rw [hx1, hx2, hx3]
          rw [hx1] at hgt
          generalize (l.getD k default).k = kk at a0 hx2 hx3 hk1 hk2
          have hbz : b < wr.heap.size := Nat.lt_of_lt_of_le hb hle.out.size
          have hkey := hyes'.out k hlt
          have hnx : (x1 || (x2 || x3)) = false → ∀ j, j < k + 1 → armGreat l g t j = false := fun h j hj => by
            by_cases hjk : j = k
            · rw [hjk, hval]; exact h
            · exact hok.out j (by omega)
          rw [hval] at hkey
          have i1 : (k : Int) < (l.length : Int) := by omega
          clear hac hta
          have hgt' := Lib.hid hgt
          have hx1' := Lib.hid hx1
          have hval' := Lib.hid hval
          have he' := Lib.hid he
          have hkey' := Lib.hid hkey
          have hnx' := Lib.hid hnx
          clear hnx hkey he hval hx1 hgt
          go_wp2_with (fail)
          go_at_call 14
          refine hgt'.out.mono ?_
          rintro e w1 ⟨rfl, hle1⟩
          have k0 := (hle1.cell (p := ⟨b, off + k * 9, none⟩) hbz).trans a0
          clear a0 a1 a2 a3 a4 a5 a6 a7 a8
          have hle1' := Lib.hid hle1
          clear hle1
          cases x1 with
          | true =>
            obtain rfl := hkey'.out rfl
            go_wp2
            go_ret
            exact ⟨rfl, hle.out.trans hle1'.out⟩
          | false =>
            cases x2 with
            | true =>
              obtain rfl := hkey'.out rfl
              go_wp2_with (first | (go_at_call 15; ((with_reducible refine (pf_within_barleycornref02 _ _ _ _).mono ?_); rintro e w' ⟨rfl, rfl⟩; rw [hx2])))
              go_ret
              exact ⟨rfl, hle.out.trans hle1'.out⟩
            | false =>
              cases x3 with
              | true =>
                obtain rfl := hkey'.out rfl
                go_wp2_with (first | (go_at_call 15; ((with_reducible refine (pf_within_barleycornref02 _ _ _ _).mono ?_); rintro e w' ⟨rfl, rfl⟩; first | rw [hx2] | rw [hx3])))
                go_ret
                exact ⟨rfl, hle.out.trans hle1'.out⟩
              | false =>
                go_wp2_with (first | (go_at_call 15; ((with_reducible refine (pf_within_barleycornref02 _ _ _ _).mono ?_); rintro e w' ⟨rfl, rfl⟩; first | rw [hx2] | rw [hx3])))
                go_roundw
                case rel => exact ⟨k + 1, by omega, by go_num, Lib.hid (hle.out.trans hle1'.out), Lib.hid (hnx'.out rfl)⟩
                case measure => simp [intOf]; omega
        · obtain rfl : k = l.length := by omega
          obtain rfl := hno'.out hok.out
          go_wp2
          go_ret
          exact ⟨rfl, hle.out⟩
end Go.Proofs.YtbikpadjmmgpcaaGreat
