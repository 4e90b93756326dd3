/- The law PatternTaken: its walk. -/
import Derived.Test.YtnboppombhibbaaAlive
import Derived.Test.YtnboppombhibbaaTakenLaw
import Derived.Test.YtnboppombhibbaaBase
namespace Go.Proofs.Ytnboppombhibbaa
open Go.RowKit
set_option linter.unusedVariables false
set_option linter.unusedSimpArgs false
set_option maxRecDepth 100000 in
set_option maxHeartbeats 4000000 in
theorem walk_PatternTaken (p : Prog) (vp : Value) (cu st : Nat) (mi ba : Bool) (w : World) (hvp : IsProg w vp p) (hcu : cu ≤ 255) (hst : st ≤ 255) :
    Calls Try.prog 8 #[vp, .int .u8 cu, .int .u8 st, .bool mi, .bool ba] w fun e w' => e = .returned (.bool true) ∧ Below w.heap.size w w' := by
  have hp0 := Lib.hid hvp
  obtain ⟨A0, c0, A1, c1, A5, c5, rfl⟩ := hvp.open
  clear hvp
  have hbx0 := Box.start w (.cells #[.slice A0 p.ros.length c0, .slice A1 p.rub.length c1, .int .i64 p.start, .int .i64 p.throw, .int .i64 p.adv, .slice A5 p.shifts.length c5] 24)
  obtain ⟨S, hS⟩ : ∃ S, shortB p = S := ⟨_, rfl⟩
  cases S with
  | false =>
    have hS' := Lib.hid hS
    clear hS
    go_enter Try.func8, Try.ntmps8
    go_wp2_with (first | (go_at_call 37; ((with_reducible refine (pf_alive _).mono ?_); rintro e w' ⟨rfl, hb⟩; have hbx1 := hbx0.next hb; clear hb hbx0; obtain ⟨p0, p1, p2, p3, p4, p5⟩ := hbx1.prog)) | (go_at_call 38; ((with_reducible refine (pf_short _ p _ (hp0.out.below hbx1.below)).mono ?_); rintro e w' ⟨rfl, hb⟩; rw [hS'.out])))
    go_ret
    exact ⟨rfl, (hbx1.next hb).below⟩
  | true =>
    by_cases hE : progE p = 0
    · have hbf := benchFacts hE
      have hsl : symL p = allMv p p 3 := by unfold symL; rw [if_pos hE]
      obtain ⟨l0, hl0⟩ := sym_head hE
      obtain ⟨n, hn⟩ : ∃ n, closeN p = n := ⟨_, rfl⟩
      obtain ⟨N, hN⟩ : ∃ n, per p = n := ⟨_, rfl⟩
      have hcl := (close_le hbf).2.2
      have hpe := per_pos hbf
      have hlo := lift_ok hbf.ros hbf.rub
      have kclose : ∀ W V, IsProg W V p → Calls Try.prog 29 #[V] W fun e w' => e = .returned (.tuple #[.int .i64 n, .int .i64 0]) ∧ Below W.heap.size W w' := fun W V h => by have h2 := pf_pat_Closes V p W h 0 hE; rw [onOkI_zero, hn] at h2; exact h2
      have kper : ∀ W V, Ints W V (liftL p.ros p.rub) → Calls Try.prog 42 #[V] W fun e w' => e = .returned (.tuple #[.int .i64 N, .int .i64 0]) ∧ Below W.heap.size W w' := fun W V h => by rw [← hN]; exact pf_ros_Period V _ W h hlo
      have kdata : ∀ x : Mv, (0 ≤ x.cuts ∧ x.cuts < (n : Int)) → (0 ≤ x.turn ∧ x.turn < (N : Int)) → (x ∈ symL p ↔ ∀ j : Nat, j < n → takenB (shL p j) (shL p (toI x.back x.cuts j)) x.turn x.mirror = true) := fun x h1 h2 => by rw [hsl, ← hn]; exact mem_sym hE x (by rw [hn]; exact h1) (by rw [hN]; exact h2)
      have hbnd : ∀ x ∈ symL p, (0 ≤ x.cuts ∧ x.cuts < (n : Int)) ∧ (0 ≤ x.turn ∧ x.turn < (N : Int)) := fun x hx => by
        rw [hsl] at hx
        have h := (mem_allMv hbf hbf 3 x).1 hx
        rw [hn, hN] at h
        exact ⟨h.2.1, h.2.2.1⟩
      rw [hn] at hcl
      rw [hN] at hpe
      rw [← hsl] at hl0
      have hle := symL_le p hE
      have ksym : ∀ W V, IsProg W V p → Calls Try.prog 41 #[V] W fun e w' => ∃ v', e = .returned (.tuple #[v', .int .i64 0]) ∧ Below W.heap.size W w' ∧ Mvs w' v' (symL p) := fun W V h => (pf_pat_Symmetries V p W h 0 hE).mono (by rintro e w' ⟨v', h1, h2, h3⟩; exact ⟨v', h1, h2, Mvs.of_own h3 (by omega)⟩)
      have klift : ∀ W V, IsProg W V p → Calls Try.prog 16 #[V] W fun e w' => ∃ v', e = .returned (.tuple #[v', .int .i64 0]) ∧ Below W.heap.size W w' ∧ Ints w' v' (liftL p.ros p.rub) := fun W V h => (pf_pat_Lift V p W h 0 hE).mono (by rintro e w' ⟨v', h1, h2, h3⟩; exact ⟨v', h1, h2, own_ints h3⟩)
      generalize symL p = L at hsl kdata hbnd hl0 hle ksym
      obtain rfl : L = zeroMv :: l0 := hl0
      have hn1 : (1 : Int) ≤ (n : Int) := by omega
      have hN1 : (1 : Int) ≤ (N : Int) := by omega
      have hsl' := Lib.hid hsl
      have kdata' := Lib.hid kdata
      have hbnd' := Lib.hid hbnd
      have hle' := Lib.hid hle
      have ksym' := Lib.hid ksym
      have klift' := Lib.hid klift
      have kclose' := Lib.hid kclose
      have kper' := Lib.hid kper
      have hS' := Lib.hid hS
      have hcl' := Lib.hid hcl
      have hpe' := Lib.hid hpe
      have hlo' := Lib.hid hlo
      have hbf' := Lib.hid hbf
      have hn' := Lib.hid hn
      have hN' := Lib.hid hN
      clear hN hn hbf hlo hpe hcl hS kper kclose klift ksym hle hbnd kdata hsl
      go_enter Try.func8, Try.ntmps8
      go_upto_region 7 with (first | (go_at_call 37; (with_reducible refine (pf_alive _).mono ?_); rintro e w' ⟨rfl, hb⟩; have hbx1 := hbx0.next hb; clear hb hbx0; obtain ⟨p0, p1, p2, p3, p4, p5⟩ := hbx1.prog) | (go_at_call 38; (with_reducible refine (pf_short _ p _ (hp0.out.below hbx1.below)).mono ?_); rintro e w' ⟨rfl, hb⟩; rw [hS'.out]; have hbx2 := hbx1.next hb; clear hb hbx1 p0 p1 p2 p3 p4 p5; obtain ⟨p0, p1, p2, p3, p4, p5⟩ := hbx2.prog) | (go_at_call 41; (with_reducible refine (ksym'.out _ _ (hp0.out.below hbx2.below)).mono ?_); rintro e w' ⟨vs, rfl, hb, hms⟩; have hms' := Lib.hid hms; have hbx3 := hbx2.next hb; clear hb hms hbx2 p0 p1 p2 p3 p4 p5; obtain ⟨p0, p1, p2, p3, p4, p5⟩ := hbx3.prog))
      go_upto_region 10 with (first | (go_at_call 29; (with_reducible refine (kclose'.out _ _ (hp0.out.below hbx3.below)).mono ?_); rintro e w' ⟨rfl, hb⟩; have hms2 := Lib.hid (hms'.out.below hb); have hbx4 := hbx3.next hb; clear hb hbx3 p0 p1 p2 p3 p4 p5; obtain ⟨p0, p1, p2, p3, p4, p5⟩ := hbx4.prog) | (go_at_call 16; (with_reducible refine (klift'.out _ _ (hp0.out.below hbx4.below)).mono ?_); rintro e w' ⟨vl, rfl, hb, hli⟩; have hli' := Lib.hid hli; have hms3 := Lib.hid (hms2.out.below hb); have hbx5 := hbx4.next hb; clear hb hli hbx4 p0 p1 p2 p3 p4 p5; obtain ⟨p0, p1, p2, p3, p4, p5⟩ := hbx5.prog) | (go_at_call 42; (with_reducible refine (kper'.out _ _ hli'.out).mono ?_); rintro e w' ⟨rfl, hb⟩; have hms4 := Lib.hid (hms3.out.below hb); have hbx6 := hbx5.next hb; clear hb hbx5 p0 p1 p2 p3 p4 p5; obtain ⟨p0, p1, p2, p3, p4, p5⟩ := hbx6.prog))
      clear hms' hms2 hms3 hli'
      obtain ⟨As, cs, rfl, hl6, hrd⟩ := id hms4.out
      obtain ⟨sb, rfl, hsb, hrc⟩ := hrd (by simp)
      obtain ⟨s0, s1, s2, s3⟩ := hrc 0 (by simp)
      have hlz : 1 ≤ (zeroMv :: l0).length := by simp
      have hrc' := Lib.hid hrc
      clear hrd hrc
      simp only [Nat.zero_mul, Nat.zero_add, List.getElem_cons_zero] at s0 s1 s2 s3
      obtain ⟨ln, hLn⟩ : ∃ ln, (zeroMv :: l0).length = ln := ⟨_, rfl⟩
      rw [hLn] at hl6 hlz ⊢
      replace s0 : w'.cell? ⟨sb, 0, none⟩ = some (.int .i64 0) := s0
      replace s1 : w'.cell? ⟨sb, 1, none⟩ = some (.int .i64 0) := s1
      replace s2 : w'.cell? ⟨sb, 2, none⟩ = some (.bool false) := s2
      replace s3 : w'.cell? ⟨sb, 3, none⟩ = some (.bool false) := s3
      have hlnz : ((ln : Int) == 0) = false := beq_eq_false_iff_ne.2 (by omega)
      have hln0 : (0 : Int) < (ln : Int) := by omega
      have hLn' := Lib.hid hLn
      clear hLn
      go_upto_region 12 with (fail)
      obtain ⟨xc, hxc⟩ : ∃ x : Nat, x = cu % n := ⟨_, rfl⟩
      obtain ⟨xt, hxt⟩ : ∃ x : Nat, x = st % N := ⟨_, rfl⟩
      have e1 : (cu : Int).tmod (n : Int) = (xc : Int) := by rw [hxc]; rfl
      have e2 : (st : Int).tmod (N : Int) = (xt : Int) := by rw [hxt]; rfl
      have e3 : ¬ (n : Int) = 0 := by omega
      have e4 : ¬ (N : Int) = 0 := by omega
      have hxc' := Lib.hid hxc
      have hxt' := Lib.hid hxt
      clear hxt hxc
      go_region
      have hbx7 := (hbx6.next (alc1 w' (.cells #[.int .i64 xc, .int .i64 xt, .bool mi, .bool ba] 68))).drew
      have hmx := alc_at w' (.cells #[.int .i64 xc, .int .i64 xt, .bool mi, .bool ba] 68)
      have hb67 : Below w'.heap.size w' (w'.alloc (.cells #[.int .i64 xc, .int .i64 xt, .bool mi, .bool ba] 68)).drew := (alc1 _ _).drew
      have hms7 := Lib.hid (hms4.out.below hb67)
      have hmx7 : (w'.alloc (.cells #[.int .i64 xc, .int .i64 xt, .bool mi, .bool ba] 68)).drew.heap[w'.heap.size]? = some (.cells #[.int .i64 xc, .int .i64 xt, .bool mi, .bool ba] 68) := hmx
      obtain ⟨X, hX⟩ : ∃ X, w'.heap.size = X := ⟨_, rfl⟩
      rw [hX] at hmx7 ⊢
      generalize (w'.alloc (.cells #[.int .i64 xc, .int .i64 xt, .bool mi, .bool ba] 68)).drew = w7 at hbx7 hms7 hmx7 ⊢
      have hNb : 1 ≤ N ∧ N ≤ 96 := by have := hpe'.out.2.1; have := hpe'.out.1; have := hbf'.out.ros1; omega
      have hmx7' := Lib.hid hmx7
      have hbx7' := Lib.hid hbx7
      clear hbx7 hmx7
      clear p0 p1 p2 p3 p4 p5 s0 s1 s2 s3 hb67 hmx hbx6 hms4 hsb hrc' hsl' hle' ksym' klift' kclose' kper' hS' hpe' hlo' hbf' hN' hX hlz hn1 hN1 e1 e2 e3 e4
      have hcl2 := hcl'.out.2
      have hxcn : (xc : Int) < n := by rw [hxc'.out]; exact Int.ofNat_lt.2 (Nat.mod_lt cu (by omega))
      have hxtN : (xt : Int) < N ∧ xt ≤ 255 := by rw [hxt'.out]; have h1 := Nat.mod_lt st (show N > 0 by omega); have h2 := Nat.mod_le st N; exact ⟨Int.ofNat_lt.2 h1, by omega⟩
      obtain ⟨T1, hT1⟩ : ∃ T : Nat → Bool, ∀ j, T j = takenB (shL p j) (shL p (toI ba xc j)) xt mi := ⟨_, fun _ => rfl⟩
      have ktk : ∀ (j : Nat) W V, j < n → IsProg W V p → Calls Try.prog 43 #[V, V, .agg #[.int .i64 xc, .int .i64 xt, .bool mi, .bool ba], .int .i64 j] W fun e w' => e = .returned (.bool (T1 j)) ∧ Below W.heap.size W w' := fun j W V hj h => by rw [hT1]; exact pf_taken V V p p xc xt mi ba j W h h (by omega) (by omega) (by omega)
      obtain ⟨L, hL⟩ : ∃ L, zeroMv :: l0 = L := ⟨_, rfl⟩
      rw [hL] at hLn' hms7 kdata' hbnd'
      have hLn := hLn'.out
      have ktl : ∀ x : Mv, x ∈ L → ∀ (j : Nat) W V, j < n → IsProg W V p → Calls Try.prog 43 #[V, V, .agg #[.int .i64 x.cuts, .int .i64 x.turn, .bool x.mirror, .bool x.back], .int .i64 j] W fun e w' => e = .returned (.bool true) ∧ Below W.heap.size W w' := fun x hm j W V hj h => by
        have hb := hbnd'.out _ hm
        have hk := (kdata'.out _ hb.1 hb.2).1 hm j hj
        have hc := pf_taken V V p p x.cuts x.turn x.mirror x.back j W h h (by omega) (by omega) (by omega)
        rwa [hk] at hc
      obtain ⟨T2, hT2⟩ : ∃ T : Nat → Bool, ∀ i (h : i < L.length), T i = decide (L[i] = ⟨xc, xt, mi, ba⟩) := ⟨fun i => if h : i < L.length then decide (L[i] = ⟨xc, xt, mi, ba⟩) else false, fun i h => dif_pos h⟩
      have hfin : allB T1 n = someB T2 ln := by
        rw [Bool.eq_iff_iff, allB_iff, ← hLn, someB_mem L ⟨xc, xt, mi, ba⟩ T2 hT2, kdata'.out ⟨xc, xt, mi, ba⟩ ⟨by show (0 : Int) ≤ (xc : Int); omega, hxcn⟩ ⟨by show (0 : Int) ≤ (xt : Int); omega, hxtN.1⟩]
        simp only [hT1]
      obtain ⟨_, _, hsl7, -, hrd⟩ := id hms7.out
      obtain ⟨sb', rfl, hsbl, hrc⟩ := hrd (by omega)
      injection hsl7 with e1 e2 e3
      injection e1 with e1
      injection e1 with e1
      subst e1
      clear hrd e2 e3
      have hXl : X < w7.heap.size := (Array.getElem?_eq_some_iff.1 hmx7'.out).1
      have hrc' := Lib.hid hrc
      clear hrc
      clear hbnd' kdata' hL hT1
      have hLn' := Lib.hid hLn
      have ktk' := Lib.hid ktk
      have ktl' := Lib.hid ktl
      have hT2' := Lib.hid hT2
      have hfin' := Lib.hid hfin
      have hxcn' := Lib.hid hxcn
      have hxtN' := Lib.hid hxtN
      clear hxtN hxcn hfin hT2 ktl ktk hLn
      obtain ⟨p0, p1, p2, p3, p4, p5⟩ := hbx7'.out.prog
      obtain ⟨m0, m1, m2, m3⟩ := move_cells hmx7'.out
      go_wp2
      go_loopw [102, 21] (fun i f wr => ∃ k : Nat, k ≤ n ∧ i = .int .i64 k ∧ f = .bool (allB T1 k) ∧ Hid (Below w7.heap.size w7 wr)) (fun i _ _ => n - (intOf i).toNat)
      case atStart => exact ⟨0, Nat.zero_le _, rfl, rfl, Lib.hid (Below.refl _ _)⟩
      case round =>
        obtain ⟨k, hk, rfl, rfl, hbw⟩ := hrel
        clear p0 p1 p2 p3 p4 p5 m0 m1 m2 m3
        obtain ⟨p0, p1, p2, p3, p4, p5⟩ := (hbx7'.out.next hbw.out).prog
        obtain ⟨m0, m1, m2, m3⟩ := move_cells ((hbw.out.block X hXl).trans hmx7'.out)
        by_cases hlt : k < n
        · have hsuc := allB_succ T1 k
          generalize allB T1 k = A at hsuc ⊢
          cases A with
          | true =>
            have hsuc' := Lib.hid hsuc
            clear hsuc
            go_wp2_with (first | (go_at_call 43; ((with_reducible refine (ktk'.out k _ _ hlt (hp0.out.below (hbx7'.out.next hbw.out).below)).mono ?_); rintro e w' ⟨rfl, hb⟩)))
            go_roundw
            case rel => exact ⟨k + 1, by omega, by go_num, by rw [hsuc'.out]; rfl, Lib.hid (hbw.out.trans (hb.mono hbw.out.size))⟩
            case measure => simp [intOf]; omega
          | false =>
            have hsuc' := Lib.hid hsuc
            clear hsuc
            go_wp2
            go_roundw
            case rel => exact ⟨k + 1, by omega, by go_num, by rw [hsuc'.out]; rfl, hbw⟩
            case measure => simp [intOf]; omega
        · obtain rfl : n = k := by omega
          obtain ⟨Z, hZ⟩ : ∃ Z, someB T2 ln = Z := ⟨_, rfl⟩
          rw [hfin'.out, hZ]
          clear m0 m1 m2 m3 p0 p1 p2 p3 p4 p5
          generalize wr = w8 at hbw ⊢
          have hZ' := Lib.hid hZ
          clear hZ
          go_wp2
          go_loopw [116, 22] (fun i f wr => ∃ k : Nat, k ≤ ln ∧ i = .int .i64 k ∧ f = .bool (someB T2 k) ∧ Hid (Below w7.heap.size w7 wr)) (fun i _ _ => ln - (intOf i).toNat)
          case atStart => exact ⟨0, Nat.zero_le _, rfl, rfl, hbw⟩
          case round =>
            clear hbw
            obtain ⟨i, hi, rfl, rfl, hbw⟩ := hrel
            by_cases hil : i < ln
            · have hiL : i < L.length := by have := hLn'.out; omega
              have hcy : ∀ W, Below w7.heap.size w7 W → W.cell? ⟨sb, i * 4, none⟩ = some (.int .i64 L[i].cuts) ∧ W.cell? ⟨sb, i * 4 + 1, none⟩ = some (.int .i64 L[i].turn) ∧ W.cell? ⟨sb, i * 4 + 2, none⟩ = some (.bool L[i].mirror) ∧ W.cell? ⟨sb, i * 4 + 3, none⟩ = some (.bool L[i].back) := fun W hW => by
                have hkc : ∀ o, W.cell? ⟨sb, o, none⟩ = w7.cell? ⟨sb, o, none⟩ := fun o => hW.cell (p := ⟨sb, o, none⟩) hsbl
                rw [hkc, hkc, hkc, hkc]
                exact hrc'.out i hiL
              obtain ⟨s0, s1, s2, s3⟩ := hcy wr hbw.out
              have hci := ktl'.out L[i] (List.getElem_mem _)
              have hsuc := someB_succ T2 i
              rw [hT2'.out i hiL] at hsuc
              obtain ⟨m0, m1, m2, m3⟩ := move_cells ((hbw.out.block X hXl).trans hmx7'.out)
              generalize L[i] = y at s0 s1 s2 s3 hci hsuc hcy
              obtain ⟨yc, yt, ym, yb⟩ := y
              have hiI : (i : Int) < (ln : Int) := by omega
              have hi0 : (0 : Int) ≤ (i : Int) := by omega
              generalize someB T2 i = A at hsuc ⊢
              have hci' := Lib.hid hci
              have hsuc' := Lib.hid hsuc
              have hcy' := Lib.hid hcy
              clear hcy hsuc hci
              cases A with
              | true =>
                go_wp2
                go_quiet (fail)
                have hbq : Below w7.heap.size w7 (wr.drewN nq) := below_drewN' hbw.out nq
                clear m0 m1 m2 m3 s0 s1 s2 s3 hbw
                generalize wr.drewN nq = w9 at hbq ⊢
                have hbw := Lib.hid hbq
                clear hbq
                go_wp2
                go_loopw [129] (fun j wi => ∃ k : Nat, k ≤ n ∧ j = .int .i64 k ∧ Hid (Below w7.heap.size w7 wi)) (fun j _ => n - (intOf j).toNat)
                case atStart => exact ⟨0, Nat.zero_le _, rfl, hbw⟩
                case round =>
                  clear hbw
                  obtain ⟨k, hk, rfl, hbj⟩ := hrel
                  by_cases hlt2 : k < n
                  · go_wp2
                    obtain ⟨ι, fam, hne, hf1, hf2, hf0⟩ := fam_below _ wr (Nat.le_refl _)
                    obtain ⟨P0, P1, P2, P3, P4, P5⟩ := (hbx7'.out.next hbj.out).fam hf1
                    have S0 := fun n => (hcy'.out _ (hbj.out.trans ((hf1 n).mono hbj.out.size))).1
                    have S1 := fun n => (hcy'.out _ (hbj.out.trans ((hf1 n).mono hbj.out.size))).2.1
                    have S2 := fun n => (hcy'.out _ (hbj.out.trans ((hf1 n).mono hbj.out.size))).2.2.1
                    have S3 := fun n => (hcy'.out _ (hbj.out.trans ((hf1 n).mono hbj.out.size))).2.2.2
                    have hf1' := Lib.hid hf1
                    have hf2' := Lib.hid hf2
                    clear hf2 hf1
                    refine wp_region_fam hf0 (by kernel_rfl) (by kernel_rfl) ?_
                    repeat (go_big_quiet_step ((go_at_call 43; exact fam_call hf2'.out (hci'.out k _ _ hlt2 (hp0.out.below ((hbx7'.out.next hbj.out).next (hf1'.out _)).below)))))
                    refine wpQuiet_nil ?_
                    intro nq
                    have hW := hf1'.out nq
                    clear P0 P1 P2 P3 P4 P5 S0 S1 S2 S3 hf0
                    generalize fam nq = W1 at hW ⊢
                    clear hf1' hf2'
                    go_wp2
                    go_roundw
                    case rel => exact ⟨k + 1, by omega, by go_num, Lib.hid (hbj.out.trans (hW.mono hbj.out.size))⟩
                    case measure => simp [intOf]; omega
                  · obtain rfl : n = k := by omega
                    go_wp2
                    go_roundw
                    case rel => exact ⟨i + 1, by omega, by go_num, by rw [hsuc'.out]; first | rfl | (rw [hdec'.out]; rfl), hbj⟩
                    case measure => simp [intOf]; omega
              | false =>
                obtain ⟨c1, hc1⟩ : ∃ c, (yc == (xc : Int)) = c := ⟨_, rfl⟩
                obtain ⟨c2, hc2⟩ : ∃ c, (yt == (xt : Int)) = c := ⟨_, rfl⟩
                obtain ⟨c3, hc3⟩ : ∃ c, (ym == mi) = c := ⟨_, rfl⟩
                obtain ⟨c4, hc4⟩ : ∃ c, (yb == ba) = c := ⟨_, rfl⟩
                have hdec : (decide ((⟨yc, yt, ym, yb⟩ : Mv) = ⟨xc, xt, mi, ba⟩)) = (c1 && c2 && c3 && c4) := by
                  rw [← hc1, ← hc2, ← hc3, ← hc4, Bool.eq_iff_iff]
                  simp [and_assoc]
                obtain ⟨D, hD⟩ : ∃ D, (c1 && c2 && c3 && c4) = D := ⟨_, rfl⟩
                have hord : (c1 = false ∧ D = false) ∨ (c1 = true ∧ c2 = false ∧ D = false) ∨ (c1 = true ∧ c2 = true ∧ c3 = false ∧ D = false) ∨ (c1 = true ∧ c2 = true ∧ c3 = true ∧ c4 = false ∧ D = false) ∨ (c1 = true ∧ c2 = true ∧ c3 = true ∧ c4 = true ∧ D = true) := by
                  rw [← hD]; cases c1 <;> cases c2 <;> cases c3 <;> cases c4 <;> simp
                rw [hD] at hdec
                have hdec' := Lib.hid hdec
                clear hdec
                clear hD
                rcases hord with ⟨rfl, rfl⟩ | ⟨rfl, rfl, rfl⟩ | ⟨rfl, rfl, rfl, rfl⟩ | ⟨rfl, rfl, rfl, rfl, rfl⟩ | ⟨rfl, rfl, rfl, rfl, rfl⟩
                all_goals
                  go_wp2
                  go_quiet (fail)
                  have hbq : Below w7.heap.size w7 (wr.drewN nq) := below_drewN' hbw.out nq
                  clear m0 m1 m2 m3 s0 s1 s2 s3 hbw
                  generalize wr.drewN nq = w9 at hbq ⊢
                  have hbw := Lib.hid hbq
                  clear hbq
                  go_wp2
                  go_loopw [129] (fun j wi => ∃ k : Nat, k ≤ n ∧ j = .int .i64 k ∧ Hid (Below w7.heap.size w7 wi)) (fun j _ => n - (intOf j).toNat)
                  case atStart => exact ⟨0, Nat.zero_le _, rfl, hbw⟩
                  case round =>
                    clear hbw
                    obtain ⟨k, hk, rfl, hbj⟩ := hrel
                    by_cases hlt2 : k < n
                    · go_wp2
                      obtain ⟨ι, fam, hne, hf1, hf2, hf0⟩ := fam_below _ wr (Nat.le_refl _)
                      obtain ⟨P0, P1, P2, P3, P4, P5⟩ := (hbx7'.out.next hbj.out).fam hf1
                      have S0 := fun n => (hcy'.out _ (hbj.out.trans ((hf1 n).mono hbj.out.size))).1
                      have S1 := fun n => (hcy'.out _ (hbj.out.trans ((hf1 n).mono hbj.out.size))).2.1
                      have S2 := fun n => (hcy'.out _ (hbj.out.trans ((hf1 n).mono hbj.out.size))).2.2.1
                      have S3 := fun n => (hcy'.out _ (hbj.out.trans ((hf1 n).mono hbj.out.size))).2.2.2
                      have hf1' := Lib.hid hf1
                      have hf2' := Lib.hid hf2
                      clear hf2 hf1
                      refine wp_region_fam hf0 (by kernel_rfl) (by kernel_rfl) ?_
                      repeat (go_big_quiet_step ((go_at_call 43; exact fam_call hf2'.out (hci'.out k _ _ hlt2 (hp0.out.below ((hbx7'.out.next hbj.out).next (hf1'.out _)).below)))))
                      refine wpQuiet_nil ?_
                      intro nq
                      have hW := hf1'.out nq
                      clear P0 P1 P2 P3 P4 P5 S0 S1 S2 S3 hf0
                      generalize fam nq = W1 at hW ⊢
                      clear hf1' hf2'
                      go_wp2
                      go_roundw
                      case rel => exact ⟨k + 1, by omega, by go_num, Lib.hid (hbj.out.trans (hW.mono hbj.out.size))⟩
                      case measure => simp [intOf]; omega
                    · obtain rfl : n = k := by omega
                      go_wp2
                      go_roundw
                      case rel => exact ⟨i + 1, by omega, by go_num, by rw [hsuc'.out]; first | rfl | (rw [hdec'.out]; rfl), hbj⟩
                      case measure => simp [intOf]; omega
            · obtain rfl : ln = i := by omega
              rw [hZ'.out]
              cases Z
              all_goals
                go_wp2
                go_ret
                exact ⟨rfl, hbx7'.out.next hbw.out |>.below⟩
    · obtain ⟨E, hEE⟩ : ∃ E, progE p = E := ⟨_, rfl⟩
      have hEz : (E != 0) = true := by rw [← hEE]; simpa using hE
      clear hE
      have hS' := Lib.hid hS
      have hEE' := Lib.hid hEE
      clear hEE hS
      go_enter Try.func8, Try.ntmps8
      go_wp2_with (first | (go_at_call 37; ((with_reducible refine (pf_alive _).mono ?_); rintro e w' ⟨rfl, hb⟩; have hbx1 := hbx0.next hb; clear hb hbx0; obtain ⟨p0, p1, p2, p3, p4, p5⟩ := hbx1.prog)) | (go_at_call 38; ((with_reducible refine (pf_short _ p _ (hp0.out.below hbx1.below)).mono ?_); rintro e w' ⟨rfl, hb⟩; rw [hS'.out]; have hbx2 := hbx1.next hb; clear hb hbx1 p0 p1 p2 p3 p4 p5; obtain ⟨p0, p1, p2, p3, p4, p5⟩ := hbx2.prog)) | (go_at_call 41; ((with_reducible refine (pf_pat_Symmetries _ p _ (hp0.out.below hbx2.below) E hEE'.out).mono ?_); rintro e w' ⟨vs, rfl, hb, hrow⟩; have hbx3 := hbx2.next hb; clear hb hrow hbx2 p0 p1 p2 p3 p4 p5; obtain ⟨p0, p1, p2, p3, p4, p5⟩ := hbx3.prog)) | (go_at_call 22; ((with_reducible refine (pf_pat_Check _ p _ (hp0.out.below hbx3.below) E hEE'.out).mono ?_); rintro e w' ⟨rfl, hb⟩)))
      go_ret
      exact ⟨rfl, (hbx3.next hb).below⟩
theorem law_PatternTaken (a0 : Prog) (x0 : Value) (a1 a2 : Int) (a3 a4 : Bool) (w : World) (w0 : IsProg w x0 a0 ∧ a0.fits) (w1 : (Lit.int .u8 a1).wf = true) (w2 : (Lit.int .u8 a2).wf = true) :
    Calls Try.prog 8 #[x0, .int .u8 a1, .int .u8 a2, .bool a3, .bool a4] w fun e w' => e = .returned (.bool true) ∧ Below w.heap.size w w' := by
  have h1' : IntKind.u8.min ≤ a1 ∧ a1 ≤ IntKind.u8.max := by simpa [Lit.wf] using w1
  have h2' : IntKind.u8.min ≤ a2 ∧ a2 ≤ IntKind.u8.max := by simpa [Lit.wf] using w2
  have h1 : 0 ≤ a1 ∧ a1 ≤ 255 := h1'
  have h2 : 0 ≤ a2 ∧ a2 ≤ 255 := h2'
  obtain ⟨sn, rfl⟩ : ∃ sn : Nat, a1 = sn := ⟨a1.toNat, by omega⟩
  obtain ⟨tn, rfl⟩ : ∃ tn : Nat, a2 = tn := ⟨a2.toNat, by omega⟩
  exact walk_PatternTaken a0 x0 sn tn a3 a4 w w0.1 (by omega) (by omega)
end Go.Proofs.Ytnboppombhibbaa
