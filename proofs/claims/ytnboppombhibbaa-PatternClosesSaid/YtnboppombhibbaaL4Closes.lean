/- The law PatternCloses: its walk. -/
import Derived.Test.YtnboppombhibbaaAlive
import Derived.Test.YtnboppombhibbaaL4Rows
namespace Go.Proofs.Ytnboppombhibbaa
open Go.RowKit Go.Lib
set_option linter.unusedVariables false
set_option linter.unusedSimpArgs false
attribute [local go_sem] Oper.semAt_some
attribute [local go_sem ↓] Go.wp_at_zero Go.wp_at_succ
theorem beq_agB (p : Prog) (fr : Int) (m j : Nat) : (shapeL p (fr + j) == shapeL p (fr + (j + m : Nat))) = agB p fr m j := by
  unfold agB
  rw [Bool.eq_iff_iff]
  simp
theorem beq_tuB (p : Prog) (fr : Int) (m s j : Nat) : (movedL (shapeL p (fr + j)) s == shapeL p (fr + (j + m : Nat))) = tuB p fr m s j := by
  unfold tuB
  rw [Bool.eq_iff_iff]
  simp
set_option maxRecDepth 100000 in
set_option maxHeartbeats 4000000 in
theorem walk_PatternCloses (p : Prog) (vp : Value) (fr : Int) (w : World) (hvp : IsProg w vp p) (hfr : -32768 ≤ fr ∧ fr ≤ 32767) :
    Calls Try.prog 6 #[vp, .int .i16 fr] w fun e w' => e = .returned (.bool true) ∧ Below w.heap.size w w' := by
  have hp0 := Lib.hid hvp
  obtain ⟨A0, c0, A1, c1, A5, c5, rfl⟩ := hvp.open
  clear hvp
  have hbx0 := Box.start w (.cells #[.slice A0 p.ros.length c0, .slice A1 p.rub.length c1, .int .i64 p.start, .int .i64 p.throw, .int .i64 p.adv, .slice A5 p.shifts.length c5] 24)
  obtain ⟨S, hS⟩ : ∃ S, shortB p = S := ⟨_, rfl⟩
  by_cases hbig : S = false ∨ 2000 < fr ∨ fr < -2000
  · have hcase : S = false ∨ (S = true ∧ 2000 < fr) ∨ (S = true ∧ ¬ 2000 < fr ∧ fr < -2000) := by
      cases S
      · exact .inl rfl
      · by_cases h : 2000 < fr
        · exact .inr (.inl ⟨rfl, h⟩)
        · rcases hbig with h1 | h1 | h1
          · cases h1
          · exact absurd h1 h
          · exact .inr (.inr ⟨rfl, h, h1⟩)
    clear hbig
    rcases hcase with rfl | ⟨rfl, h1⟩ | ⟨rfl, h1, h2⟩
    all_goals
      have hS' := Lib.hid hS
      clear hS
      go_enter Try.func6, Try.ntmps6
      go_wp2_with (first | (go_at_call 37; ((with_reducible refine (pf_alive _).mono ?_); rintro e w' ⟨rfl, hb⟩; have hbx1 := hbx0.next hb; clear hb hbx0; obtain ⟨p0, p1, p2, p3, p4, p5⟩ := hbx1.prog)) | (go_at_call 38; ((with_reducible refine (pf_short _ p _ (hp0.out.below hbx1.below)).mono ?_); rintro e w' ⟨rfl, hb⟩; rw [hS'.out]; have hbx2 := hbx1.next hb; clear hb hbx1 p0 p1 p2 p3 p4 p5)))
      go_ret
      exact ⟨rfl, hbx2.below⟩
  · have hSf : S = true := by cases S <;> simp_all
    subst hSf
    have hj1 : ¬ 2000 < fr := fun h => hbig (.inr (.inl h))
    have hj2 : ¬ fr < -2000 := fun h => hbig (.inr (.inr h))
    clear hbig
    by_cases hE : progE p = 0
    · have hbf := benchFacts hE
      have hsc := short_close hbf hS
      have hcl := (close_le hbf).2.2.1
      have hro := hbf.ros0
      obtain ⟨n, hn⟩ : ∃ n, closeN p = n := ⟨_, rfl⟩
      obtain ⟨c, hc⟩ : ∃ n, motifN p = n := ⟨_, rfl⟩
      have htb := turn_bound hbf
      have hpe := per_pos hbf
      obtain ⟨t, ht⟩ : ∃ t : Nat, turnI p = t := ⟨(turnI p).toNat, by omega⟩
      have hml := motif_le hbf
      have hmc := motif_close p
      obtain ⟨R, hR⟩ : ∃ R, p.ros.length = R := ⟨_, rfl⟩
      have kag : ∀ m, 1 ≤ m → m ≤ n → allB (agB p fr m) n = decide (m = n) := fun m h1 h2 => by rw [← hn] at h2 ⊢; exact again_law hbf fr h1 h2
      have ktn : ∀ m s : Nat, 1 ≤ m → m < c → allB (tuB p fr m s) n = false := fun m s h1 h2 => by rw [← hn]; rw [← hc] at h2; exact turn_none hbf fr s h1 h2
      have ktm : ∀ s : Nat, s < t → allB (tuB p fr c s) n = false := fun s h => by rw [← hn, ← hc]; exact turn_miss hbf fr (by rw [ht]; omega)
      have kth : allB (tuB p fr c t) n = true := by rw [← hn, ← hc]; exact turn_hit hbf fr ht.symm
      have kclose : ∀ W V, IsProg W V p → Calls Try.prog 29 #[V] W fun e w' => e = .returned (.tuple #[.int .i64 n, .int .i64 0]) ∧ Below W.heap.size W w' := fun W V h => by have h2 := pf_pat_Closes V p W h 0 hE; rw [onOkI_zero, hn] at h2; exact h2
      have kmotif : ∀ W V, IsProg W V p → Calls Try.prog 31 #[V] W fun e w' => e = .returned (.tuple #[.int .i64 c, .int .i64 t, .int .i64 0]) ∧ Below W.heap.size W w' := fun W V h => by have h2 := pf_pat_Motif V p W h 0 hE; rw [onOkI_zero, onOkI_zero, hc, ht] at h2; exact h2
      obtain ⟨A, hA⟩ : ∃ A : Nat → List Int, ∀ j, A j = shapeL p (fr + j) := ⟨_, fun _ => rfl⟩
      have hAl : ∀ j, (A j).length = R := fun j => by rw [hA, shapeL_length, hR]
      have hag : ∀ m j, (A j == A (j + m)) = agB p fr m j := fun m j => by rw [hA, hA]; exact beq_agB p fr m j
      have htu : ∀ m s j : Nat, (movedL (A j) s == A (j + m)) = tuB p fr m s j := fun m s j => by rw [hA, hA]; exact beq_tuB p fr m s j
      have kshape : ∀ (j : Nat) W V, j < 2 * n → IsProg W V p → Calls Try.prog 39 #[V, .int .i64 (fr + j)] W fun e w' => ∃ g c, e = .returned (slV R (g, c)) ∧ Below W.heap.size W w' ∧ W.heap.size ≤ g ∧ w'.ownsRow 0 3 1 (slV R (g, c)) R ((A j).map vint) := fun j W V hj h => by
        have hok : shL p (fr + j) = A j := by rw [hA]; exact shL_ok hE (by omega)
        refine (pf_shape V p (fr + j) W h).mono ?_
        rintro e w' ⟨v', h1, h2, h3⟩
        have h4 : w'.ownsRow W.heap.size 3 1 v' (A j).length ((A j).map vint) := by rw [← hok]; exact h3
        rw [hAl] at h4
        have hnn : v'.ownBlock ≠ none := by
          rcases h4.2 with ⟨_, h5⟩ | ⟨g, cap, cur, rfl, _⟩
          · omega
          · simp [Value.ownBlock]
        obtain ⟨g, c, rfl, h5, -, -⟩ := own_formS h4 hnn
        exact ⟨g, c, h1, h2, h5, own_base h4 (Nat.zero_le _)⟩
      have hn1 : 1 ≤ n ∧ n ≤ 48 := by omega
      have hc1 : 1 ≤ c ∧ c ≤ 4 := by
        have := hS
        unfold shortB at this
        simp at this
        omega
      have htR : (t : Int) < (R : Int) := by omega
      have hRb : 1 ≤ R ∧ R ≤ 12 := by omega
      have hnc : (n : Int).tmod (c : Int) = 0 := by rw [← hn, ← hc]; exact Int.tmod_eq_zero_of_dvd (Int.natCast_dvd_natCast.2 hmc)
      rw [hR] at hbx0 hp0 ⊢
      clear hsc hcl htb hpe hml hmc hA hro
      have hS' := Lib.hid hS
      have kag' := Lib.hid kag
      have ktn' := Lib.hid ktn
      have ktm' := Lib.hid ktm
      have kth' := Lib.hid kth
      have kclose' := Lib.hid kclose
      have kmotif' := Lib.hid kmotif
      have hAl' := Lib.hid hAl
      have hag' := Lib.hid hag
      have htu' := Lib.hid htu
      have kshape' := Lib.hid kshape
      have hbf' := Lib.hid hbf
      have hn' := Lib.hid hn
      have hc' := Lib.hid hc
      have ht' := Lib.hid ht
      have hR' := Lib.hid hR
      clear hR ht hc hn hbf kshape htu hag hAl kmotif kclose kth ktm ktn kag hS
      go_enter Try.func6, Try.ntmps6
      go_upto_region 7 with (first | (go_at_call 37; (with_reducible refine (pf_alive _).mono ?_); rintro e w' ⟨rfl, hb⟩; have hbx1 := hbx0.next hb; clear hb hbx0; obtain ⟨p0, p1, p2, p3, p4, p5⟩ := hbx1.prog) | (go_at_call 38; (with_reducible refine (pf_short _ p _ (hp0.out.below hbx1.below)).mono ?_); rintro e w' ⟨rfl, hb⟩; rw [hS'.out]; have hbx2 := hbx1.next hb; clear hb hbx1 p0 p1 p2 p3 p4 p5; obtain ⟨p0, p1, p2, p3, p4, p5⟩ := hbx2.prog) | (go_at_call 29; (with_reducible refine (kclose'.out _ _ (hp0.out.below hbx2.below)).mono ?_); rintro e w' ⟨rfl, hb⟩; have hbx3 := hbx2.next hb; clear hb hbx2 p0 p1 p2 p3 p4 p5; obtain ⟨p0, p1, p2, p3, p4, p5⟩ := hbx3.prog))
      have hcz : ¬ (c : Int) = 0 := by omega
      have htz : ¬ (t : Int) < 0 := by omega
      have hn48 : ¬ (48 : Int) < (n : Int) := by omega
      have hw2 : IntKind.i64.wrap (2 * (n : Int)) = ((2 * n : Nat) : Int) := by rw [IntWalk.i64_in _ (by omega)]; simp
      have hge : ¬ R ≤ t := by omega
      have hn1I : ¬ (n : Int) < 1 := by omega
      have hc1I : ¬ (c : Int) < 1 := by omega
      go_upto_region 10 with (first | (go_at_call 31; (with_reducible refine (kmotif'.out _ _ (hp0.out.below hbx3.below)).mono ?_); rintro e w' ⟨rfl, hb⟩; have hbx4 := hbx3.next hb; clear hb hbx3 p0 p1 p2 p3 p4 p5; obtain ⟨p0, p1, p2, p3, p4, p5⟩ := hbx4.prog))
      have hw1 : w.heap.size < w'.heap.size := (Array.getElem?_eq_some_iff.1 hbx4.block).1
      have hbb := Lib.hid hbx4
      obtain ⟨N2, hN2⟩ : ∃ N2, 2 * n = N2 := ⟨_, rfl⟩
      rw [hN2] at hw2
      have hN2b : N2 ≤ 96 := by omega
      clear hbx4 p0 p1 p2 p3 p4 p5 htz hn48 hge hcz hnc hn1I hc1I
      have hN2' := Lib.hid hN2
      clear hN2
      go_wp2
      go_loopw [91, 11] (fun i l wr => ∃ k : Nat, k ≤ N2 ∧ i = .int .i64 k ∧ Hid (Below w'.heap.size w' wr) ∧ Hid (∃ rows, RowsAt w'.heap.size wr l A R k rows)) (fun i _ _ => N2 - (intOf i).toNat)
      case atStart => exact ⟨0, Nat.zero_le _, rfl, Lib.hid (Below.refl _ _), Lib.hid ⟨[], RowsAt.start _ _ _ _⟩⟩
      case round =>
        obtain ⟨k, hk, rfl, hbw, hrw⟩ := hrel
        by_cases hlt : k < N2
        · have hbx5 := hbb.out.next hbw.out
          obtain ⟨p0, p1, p2, p3, p4, p5⟩ := hbx5.prog
          have hwk : IntKind.i64.wrap (fr + (k : Int)) = fr + (k : Int) := IntWalk.i64_in _ (by omega)
          have hk2 : k < 2 * n := by have := hN2'.out; omega
          go_upto_region 17 with (first | (go_at_call 39; (with_reducible refine (kshape'.out k _ _ hk2 (hp0.out.below hbx5.below)).mono ?_); rintro e w1 ⟨g, cg, rfl, hb, hg, hrow⟩; have hbx6 := hbx5.next hb; have hb1' := Lib.hid hb; have hg' := Lib.hid hg; have hrow' := Lib.hid hrow; clear hb hg hrow hbx5 p0 p1 p2 p3 p4 p5; obtain ⟨p0, p1, p2, p3, p4, p5⟩ := hbx6.prog; unfold slV))
          clear p0 p1 p2 p3 p4 p5
          obtain ⟨rows, hrows⟩ := hrw.out
          have hr6 := hrows.next hb1'.out
          have hne6 : u11.ownBlock ≠ some g := fun e => by
            have h1 := (hrows.own.lt g e).2
            have h2 := hg'.out
            omega
          obtain ⟨mi, hmi, hz0, hz1, hzb⟩ := info_parts slInfo
          have hnew := one_newV w1 (.slice (some ⟨g, 0, none⟩) R cg) 22
          have hen : ∀ u ∈ [Value.slice (some ⟨g, 0, none⟩) R cg], u.oneCell' = true := by simp [Value.oneCell']
          have hsz6 : w'.heap.size ≤ w1.heap.size := Nat.le_trans hbw.out.size hb1'.out.size
          have hr6' := Lib.hid hr6
          clear hr6 hrows hrw
          have hne6' := Lib.hid hne6
          have hz0' := Lib.hid hz0
          have hz1' := Lib.hid hz1
          have hzb' := Lib.hid hzb
          have hnew' := Lib.hid hnew
          have hen' := Lib.hid hen
          clear hen hnew hzb hz1 hz0 hne6
          go_wp2_with (first | (at_builtin; go_must (refine wpList_append_ownB _ rfl _ _ 58 rfl w'.heap.size 22 mi _ 1 24 Try.underlying58 hmi hz0'.out hz1'.out hzb'.out rfl (by decide) u11 k (rows.map (slV R)) rfl (hr6'.out.own.alloc _) ⟨w1.heap.size, 0, none⟩ 1 1 [.slice (some ⟨g, 0, none⟩) R cg] rfl rfl hnew'.out hen'.out (by unfold maxLen; omega) (by omega) (by simp; omega) ?_)))
          intro l2 w2 hown2 hg2 hnw2
          have hpush := Lib.hid ((hr6'.out.next (alc1 w1 (.cells #[.slice (some ⟨g, 0, none⟩) R cg] 22))).push (own_below hrow'.out (alc1 w1 _)) hne6'.out hown2 hg2 (by simpa using hnw2))
          have hbw2 : Below w'.heap.size w' w2 := ((hbw.out.trans (hb1'.out.mono hbw.out.size)).trans ((alc1 w1 (.cells #[.slice (some ⟨g, 0, none⟩) R cg] 22)).mono hsz6)).grown hg2 (by simp; omega) (fun b hb => ((hr6'.out.own.lt b hb).1))
          clear hown2 hg2 hnw2
          have hbw2' := Lib.hid hbw2
          clear hbw2
          go_wp2
          go_roundw
          case rel => exact ⟨k + 1, by omega, by go_num, hbw2', Lib.hid ⟨_, hpush.out⟩⟩
          case measure => simp [intOf]; omega
        · obtain rfl : N2 = k := by omega
          obtain ⟨rows, hrows⟩ := hrw.out
          have hbxr := Lib.hid (hbb.out.next hbw.out)
          obtain ⟨gl, cl, rfl, hgl, hcells⟩ := hrows.cell (by have := hN2'.out; omega)
          clear hrows hrw hbb hbw
          have hcells' := Lib.hid hcells
          clear hcells
          generalize wr = wL at hbxr hgl hcells' ⊢
          clear hw2 hw1 hN2b
          obtain ⟨zz, hzz⟩ : ∃ z : Nat, z = 0 := ⟨0, rfl⟩
          go_wp2
          go_loopw [14] (fun i wr => ∃ m : Nat, 1 ≤ m ∧ m ≤ n + 1 ∧ i = .int .i64 m ∧ Hid (Below wL.heap.size wL wr)) (fun i _ => n + 1 - (intOf i).toNat)
          case atStart => exact ⟨1, Nat.le_refl _, by omega, rfl, Lib.hid (Below.refl _ _)⟩
          case round =>
            obtain ⟨m, hm1, hm2, rfl, hbw⟩ := hrel
            by_cases hmn : m ≤ n
            · have hmnI : (m : Int) ≤ (n : Int) := by omega
              go_wp2
              go_loopw [117, 15] (fun i a wr => ∃ j : Nat, j ≤ n ∧ i = .int .i64 j ∧ a = .bool (allB (agB p fr m) j) ∧ Hid (Below wL.heap.size wL wr)) (fun i _ _ => n - (intOf i).toNat)
              case atStart => exact ⟨0, Nat.zero_le _, rfl, rfl, hbw⟩
              case round =>
                clear hbw
                obtain ⟨j, hj, rfl, rfl, hbw⟩ := hrel
                by_cases hjn : j < n
                · have hsuc := allB_succ (agB p fr m) j
                  rw [← hag'.out] at hsuc
                  generalize allB (agB p fr m) j = D at hsuc ⊢
                  have hsuc' := Lib.hid hsuc
                  clear hsuc
                  cases D with
                  | true =>
                    obtain ⟨x, hcx, hox⟩ := hcells'.out j (by have := hN2'.out; omega)
                    obtain ⟨y, hcy, hoy⟩ := hcells'.out (j + m) (by have := hN2'.out; omega)
                    have hcx1 : wr.cell? ⟨gl, j, none⟩ = some (.slice (some ⟨x.1, 0, none⟩) R x.2) := (hbw.out.cell (p := ⟨gl, j, none⟩) hgl).trans hcx
                    have hcy1 : wr.cell? ⟨gl, j + m, none⟩ = some (.slice (some ⟨y.1, 0, none⟩) R y.2) := (hbw.out.cell (p := ⟨gl, j + m, none⟩) hgl).trans hcy
                    have i1 : (0 : Int) ≤ (j : Int) := by omega
                    have i2 : (j : Int) < (N2 : Int) := by have := hN2'.out; omega
                    have hwm : IntKind.i64.wrap ((j : Int) + (m : Int)) = ((j + m : Nat) : Int) := by rw [IntWalk.i64_in _ (by omega)]; simp
                    have i3 : (0 : Int) ≤ ((j + m : Nat) : Int) := by omega
                    have i4 : ((j + m : Nat) : Int) < (N2 : Int) := by have := hN2'.out; omega
                    have ksame : ∀ q, Calls Try.prog 24 #[.slice (some ⟨x.1, 0, none⟩) R x.2, .slice (some ⟨y.1, 0, none⟩) R y.2] (wr.drewN q) fun e w' => e = .returned (.bool (A j == A (j + m))) ∧ ∃ k, w' = (wr.drewN q).drewN k := fun q => pf_l4_same _ _ (A j) (A (j + m)) _ (rowInts (hAl'.out _) (own_below hox hbw.out) q) (rowInts (hAl'.out _) (own_below hoy hbw.out) q)
                    clear hcx hcy hox hoy
                    have ksame' := Lib.hid ksame
                    clear ksame
                    go_wp2
                    go_quiet ((go_at_call 24; exact Calls.quiet_of (ksame'.out _)))
                    go_wp2
                    go_roundw
                    case rel => exact ⟨j + 1, by omega, by go_num, by rw [hsuc'.out]; rfl, Lib.hid (below_drewN' hbw.out _)⟩
                    case measure => simp [intOf]; omega
                  | false =>
                    go_wp2
                    go_quiet (fail)
                    go_wp2
                    go_roundw
                    case rel => exact ⟨j + 1, by omega, by go_num, by rw [hsuc'.out]; rfl, Lib.hid (below_drewN' hbw.out _)⟩
                    case measure => simp [intOf]; omega
                · obtain rfl : n = j := by omega
                  rw [kag'.out m hm1 hmn]
                  obtain ⟨E1, hE1⟩ : ∃ b, decide (m = n) = b := ⟨_, rfl⟩
                  rw [hE1]
                  obtain ⟨x0, hcx, hox⟩ := hcells'.out 0 (by have := hN2'.out; omega)
                  have hcx1 : wr.cell? ⟨gl, 0, none⟩ = some (.slice (some ⟨x0.1, 0, none⟩) R x0.2) := (hbw.out.cell (p := ⟨gl, 0, none⟩) hgl).trans hcx
                  have i0 : (0 : Int) < (N2 : Int) := by have := hN2'.out; omega
                  obtain ⟨TT, hTT⟩ : ∃ T : Nat → Bool, ∀ s, T s = allB (tuB p fr m s) n := ⟨_, fun _ => rfl⟩
                  clear hcx hox
                  have hE1' := Lib.hid hE1
                  have hTT' := Lib.hid hTT
                  clear hTT hE1
                  go_wp2
                  clear hcx1
                  go_loopw [139, 16] (fun i a wr => ∃ s : Nat, s ≤ R ∧ i = .int .i64 s ∧ a = .bool (someB TT s) ∧ Hid (Below wL.heap.size wL wr)) (fun i _ _ => R - (intOf i).toNat)
                  case atStart => exact ⟨0, Nat.zero_le _, rfl, rfl, hbw⟩
                  case round =>
                    clear hbw
                    obtain ⟨s, hs, rfl, rfl, hbw⟩ := hrel
                    by_cases hsR : s < R
                    · go_wp2
                      go_loopw [143, 19] (fun i a wr => ∃ j : Nat, j ≤ n ∧ i = .int .i64 j ∧ a = .bool (allB (tuB p fr m s) j) ∧ Hid (Below wL.heap.size wL wr)) (fun i _ _ => n - (intOf i).toNat)
                      case atStart => exact ⟨0, Nat.zero_le _, rfl, rfl, hbw⟩
                      case round =>
                        clear hbw
                        obtain ⟨j, hj, rfl, rfl, hbw⟩ := hrel
                        by_cases hjn : j < n
                        · have hsuc := allB_succ (tuB p fr m s) j
                          rw [← htu'.out] at hsuc
                          generalize allB (tuB p fr m s) j = D at hsuc ⊢
                          have hsuc' := Lib.hid hsuc
                          clear hsuc
                          cases D with
                          | true =>
                            obtain ⟨x, hcx, hox⟩ := hcells'.out j (by have := hN2'.out; omega)
                            obtain ⟨y, hcy, hoy⟩ := hcells'.out (j + m) (by have := hN2'.out; omega)
                            obtain ⟨jm, hjm⟩ : ∃ x, j + m = x := ⟨_, rfl⟩
                            rw [hjm] at hcy hoy hsuc'
                            have hwm : IntKind.i64.wrap ((j : Int) + (m : Int)) = (jm : Int) := by rw [← hjm, IntWalk.i64_in _ (by omega)]; simp
                            have i3 : (0 : Int) ≤ (jm : Int) := by omega
                            have i4 : (jm : Int) < (N2 : Int) := by have := hN2'.out; omega
                            have kcx : ∀ W, Below wL.heap.size wL W → W.cell? ⟨gl, j, none⟩ = some (.slice (some ⟨x.1, 0, none⟩) R x.2) ∧ W.cell? ⟨gl, jm, none⟩ = some (.slice (some ⟨y.1, 0, none⟩) R y.2) := fun W h => ⟨(h.cell (p := ⟨gl, j, none⟩) hgl).trans hcx, (h.cell (p := ⟨gl, jm, none⟩) hgl).trans hcy⟩
                            have i1 : (0 : Int) ≤ (j : Int) := by omega
                            have i2 : (j : Int) < (N2 : Int) := by have := hN2'.out; omega
                            have kturn : ∀ W, Below wL.heap.size wL W → Calls Try.prog 40 #[.slice (some ⟨x.1, 0, none⟩) R x.2, .int .i64 s] W fun e w' => ∃ v', e = .returned v' ∧ Below W.heap.size W w' ∧ Ints w' v' (movedL (A j) s) := fun W h => (pf_turn _ (A j) s W (rowInts (hAl'.out _) (own_below hox h) 0) (by rw [hAl'.out]; omega) (by omega)).mono (by rintro e w' ⟨v', h1, h2, h3⟩; exact ⟨v', h1, h2, own_ints h3⟩)
                            have ksame : ∀ W V, Below wL.heap.size wL W → Ints W V (movedL (A j) s) → Calls Try.prog 24 #[V, .slice (some ⟨y.1, 0, none⟩) R y.2] W fun e w' => e = .returned (.bool (movedL (A j) s == A jm)) ∧ ∃ k, w' = W.drewN k := fun W V h hi => pf_l4_same _ _ _ (A jm) _ hi (rowInts (hAl'.out _) (own_below hoy h) 0)
                            clear hcx hcy hox hoy
                            have hbd : Below wL.heap.size wL wr.drew := hbw.out.drew
                            obtain ⟨q1, q2⟩ := kcx _ hbd
                            have kcx' := Lib.hid kcx
                            have kturn' := Lib.hid kturn
                            have ksame' := Lib.hid ksame
                            have hjm' := Lib.hid hjm
                            clear hjm ksame kturn kcx
                            go_wp2
                            go_region_held3 (fun w' => w'.cell? ⟨gl, j, none⟩ = some (.slice (some ⟨x.1, 0, none⟩) R x.2) ∧ w'.cell? ⟨gl, jm, none⟩ = some (.slice (some ⟨y.1, 0, none⟩) R y.2)) (go_keep) (first | (go_at_call 40; with_reducible refine (kturn'.out _ hbd).mono ?_; rintro e w' ⟨v', rfl, hb, hi⟩; have hit := Lib.hid hi; have hbe := hbd.trans (hb.mono hbd.size); clear hi hb hbd; obtain ⟨q1, q2⟩ := kcx'.out _ hbe) | (go_at_call 24; with_reducible refine (ksame'.out _ _ hbe hit.out).mono ?_; rintro e w' ⟨rfl, q, rfl⟩; have hbf := below_drewN' hbe q; clear hbe; obtain ⟨q1, q2⟩ := kcx'.out _ hbf))
                            all_goals
                              go_wp2
                              go_roundw
                              case rel => exact ⟨j + 1, by omega, by go_num, by rw [hsuc'.out]; rfl, Lib.hid (by first | assumption | exact hbf)⟩
                              case measure => simp [intOf]; omega
                          | false =>
                            go_wp2
                            go_quiet (fail)
                            go_wp2
                            go_roundw
                            case rel => exact ⟨j + 1, by omega, by go_num, by rw [hsuc'.out]; rfl, Lib.hid (below_drewN' hbw.out _)⟩
                            case measure => simp [intOf]; omega
                        · obtain rfl : n = j := by omega
                          rw [← hTT'.out]
                          have hsuc := someB_succ TT s
                          have g1 : m = c → s = t → TT s = true := fun h1 h2 => by rw [hTT'.out, h1, h2]; exact kth'.out
                          have g2 : m = c → s < t → TT s = false := fun h1 h2 => by rw [hTT'.out, h1]; exact ktm'.out s h2
                          generalize TT s = D at hsuc g1 g2 ⊢
                          generalize someB TT s = X at hsuc ⊢
                          have hsuc' := Lib.hid hsuc
                          clear hsuc
                          have hcase : (m = c ∧ s < t ∧ D = false) ∨ (m = c ∧ s = t ∧ D = true) ∨ (m = c ∧ t < s) ∨ m ≠ c := by
                            by_cases h1 : m = c
                            · rcases Nat.lt_trichotomy s t with h2 | h2 | h2
                              · exact .inl ⟨h1, h2, g2 h1 h2⟩
                              · exact .inr (.inl ⟨h1, h2, g1 h1 h2⟩)
                              · exact .inr (.inr (.inl ⟨h1, h2⟩))
                            · exact .inr (.inr (.inr h1))
                          have g1' := Lib.hid g1
                          have g2' := Lib.hid g2
                          clear g2 g1
                          rcases hcase with ⟨h1, h2, rfl⟩ | ⟨h1, h2, rfl⟩ | ⟨h1, h2⟩ | h1
                          · have b1 : ((m : Int) == (c : Int)) = true := by simp [h1]
                            have b2 : s < t := h2
                            have b3 : ((s : Int) == (t : Int)) = false := by simp; omega
                            have h1' := Lib.hid h1
                            have h2' := Lib.hid h2
                            clear h2 h1
                            cases X
                            all_goals
                              go_wp2
                              go_roundw
                              case rel => exact ⟨s + 1, by omega, by go_num, by rw [hsuc'.out]; rfl, hbw⟩
                              case measure => simp [intOf]; omega
                          · have b1 : ((m : Int) == (c : Int)) = true := by simp [h1]
                            have b2 : ¬ s < t := by omega
                            have b3 : ((s : Int) == (t : Int)) = true := by simp [h2]
                            have h1' := Lib.hid h1
                            have h2' := Lib.hid h2
                            clear h2 h1
                            cases X
                            all_goals
                              go_wp2
                              go_roundw
                              case rel => exact ⟨s + 1, by omega, by go_num, by rw [hsuc'.out]; rfl, hbw⟩
                              case measure => simp [intOf]; omega
                          · have b1 : ((m : Int) == (c : Int)) = true := by simp [h1]
                            have b2 : ¬ s < t := by omega
                            have b3 : ((s : Int) == (t : Int)) = false := by simp; omega
                            have h1' := Lib.hid h1
                            have h2' := Lib.hid h2
                            clear h2 h1
                            cases X
                            all_goals
                              go_wp2
                              go_roundw
                              case rel => exact ⟨s + 1, by omega, by go_num, by rw [hsuc'.out]; rfl, hbw⟩
                              case measure => simp [intOf]; omega
                          · have b1 : ((m : Int) == (c : Int)) = false := beq_eq_false_iff_ne.2 (by omega)
                            have h1' := Lib.hid h1
                            clear h1
                            cases X
                            all_goals
                              go_wp2
                              go_roundw
                              case rel => exact ⟨s + 1, by omega, by go_num, by rw [hsuc'.out]; rfl, hbw⟩
                              case measure => simp [intOf]; omega
                    · obtain rfl : R = s := by omega
                      have hfx : m < c → someB TT R = false := fun h => by
                        rw [← Bool.not_eq_true, someB_iff]
                        rintro ⟨s, -, h2⟩
                        rw [hTT'.out, ktn'.out m s hm1 h] at h2
                        cases h2
                      generalize someB TT R = X at hfx ⊢
                      have b1 : ((m : Int) == (n : Int)) = E1 := by rw [← hE1'.out, Bool.eq_iff_iff]; simp; omega
                      have hcase : (m < c ∧ X = false) ∨ ¬ m < c := by
                        by_cases h : m < c
                        · exact .inl ⟨h, hfx h⟩
                        · exact .inr h
                      clear hfx
                      rcases hcase with ⟨b2, rfl⟩ | b2
                      all_goals
                        cases E1
                        all_goals
                          go_wp2
                          go_roundw
                          case rel => exact ⟨m + 1, by omega, by omega, by go_num, hbw⟩
                          case measure => simp [intOf]; omega
            · obtain rfl : m = n + 1 := by omega
              have hle : ¬ ((n + 1 : Nat) : Int) ≤ (n : Int) := by omega
              go_wp2
              go_ret
              exact ⟨rfl, (hbxr.out.next hbw.out).below⟩
    · obtain ⟨E, hEE⟩ : ∃ E, progE p = E := ⟨_, rfl⟩
      have hEz : (E != 0) = true := by rw [← hEE]; simpa using hE
      have hE0 : E ≠ 0 := by rw [← hEE]; exact hE
      have kc : ∀ W V, IsProg W V p → Calls Try.prog 29 #[V] W fun e w' => e = .returned (.tuple #[.int .i64 0, .int .i64 E]) ∧ Below W.heap.size W w' := fun W V h => by have h2 := pf_pat_Closes V p W h E hEE; rwa [onOkI_ne hE0] at h2
      clear hE
      have hS' := Lib.hid hS
      have hEE' := Lib.hid hEE
      have hE0' := Lib.hid hE0
      have kc' := Lib.hid kc
      clear kc hE0 hEE hS
      go_enter Try.func6, Try.ntmps6
      go_wp2_with (first | (go_at_call 37; ((with_reducible refine (pf_alive _).mono ?_); rintro e w' ⟨rfl, hb⟩; have hbx1 := hbx0.next hb; clear hb hbx0; obtain ⟨p0, p1, p2, p3, p4, p5⟩ := hbx1.prog)) | (go_at_call 38; ((with_reducible refine (pf_short _ p _ (hp0.out.below hbx1.below)).mono ?_); rintro e w' ⟨rfl, hb⟩; rw [hS'.out]; have hbx2 := hbx1.next hb; clear hb hbx1 p0 p1 p2 p3 p4 p5; obtain ⟨p0, p1, p2, p3, p4, p5⟩ := hbx2.prog)) | (go_at_call 29; ((with_reducible refine (kc'.out _ _ (hp0.out.below hbx2.below)).mono ?_); rintro e w' ⟨rfl, hb⟩; have hbx3 := hbx2.next hb; clear hb hbx2 p0 p1 p2 p3 p4 p5; obtain ⟨p0, p1, p2, p3, p4, p5⟩ := hbx3.prog)) | (go_at_call 22; ((with_reducible refine (pf_pat_Check _ p _ (hp0.out.below hbx3.below) E hEE'.out).mono ?_); rintro e w' ⟨rfl, hb⟩)))
      go_ret
      exact ⟨rfl, (hbx3.next hb).below⟩
theorem law_PatternCloses (a0 : Prog) (x0 : Value) (a1 : Int) (w : World) (w0 : IsProg w x0 a0 ∧ a0.fits) (w1 : (Lit.int .i16 a1).wf = true) :
    Calls Try.prog 6 #[x0, .int .i16 a1] w fun e w' => e = .returned (.bool true) ∧ Below w.heap.size w w' := by
  have h1' : IntKind.i16.min ≤ a1 ∧ a1 ≤ IntKind.i16.max := by simpa [Lit.wf] using w1
  have h1 : -32768 ≤ a1 ∧ a1 ≤ 32767 := h1'
  exact walk_PatternCloses a0 x0 a1 w w0.1 h1
end Go.Proofs.Ytnboppombhibbaa
