/- The reference's Cut, its answer owned; the reference's See (printed by gen_see.py). -/
import Derived.Test.YtjdgkmcmgagkgaaGreatRdSee
namespace Go.Proofs.YtjdgkmcmgagkgaaGreat
set_option maxRecDepth 100000
set_option maxHeartbeats 8000000
open Go.RowKit
set_option linter.unusedVariables false
set_option linter.unusedSimpArgs false
def RsB (N : Nat) (W : World) (v : Value) (r : Rd) : Prop := ∃ B, v = .slice (some ⟨B, 0, none⟩) 1 1 ∧ N ≤ B ∧ W.heap[B]? = some (.cells #[.int .i64 r.cut, .int .i64 r.step, .int .i64 r.lo, .int .i64 r.hi] 77)
def MPred.rsB (N : Nat) (r : Rd) : MPred := ⟨fun v W => RsB N W v r, fun _ _ _ h ⟨X, e, a, b⟩ => ⟨X, e, a, blk h b⟩⟩
theorem pf_r4_CutO (v : Value) (p : Prog) (j : Int) (w : World) (hv : IsProg w v p) (E : Int) (hE : cutE p j = E) :
  Calls Tryz.prog 34 #[v, .int .i64 j] w fun e w' => ∃ v', e = .returned (.tuple #[v', .int .i64 E]) ∧ Below w.heap.size w w' ∧ w'.ownsRow w.heap.size 3 1 v' (onOk E (cutL p j)).length ((onOk E (cutL p j)).map vint) := by
 have hv0 := Lib.hid hv
 obtain ⟨v0, v1, v5, rfl, h0, hh1, h5⟩ := hv
 clear h0 hh1 h5
 unfold cutE at hE
 obtain ⟨F, hF⟩ : ∃ F, progE p = F := ⟨_, rfl⟩
 rw [hF] at hE
 by_cases hF0 : F = 0
 ·subst hF0
  have hp := benchFacts hF
  obtain ⟨X1, hX1⟩ : ∃ X, within j (-5000) 5000 = X := ⟨_, rfl⟩
  rw [hX1] at hE
  have ⟨hF', hX1'⟩ := hyd2 hF hX1
  clear hX1 hF
  cases X1 with
  | false =>
   obtain rfl : 2 = E := hE
   go_enter Tryz.func34, Tryz.ntmps34
   go_wp2_with (first | (go_at_call 32; ((with_reducible refine (pf_r4_Check _ p _ (hv0.out.below (alc1 _ _)) 0 hF'.out).mono ?_); rintro e w' ⟨rfl, hb1⟩; have hbox := (Box.start w _).next hb1; clear hb1)) | (go_at_call 63; ((with_reducible refine (pf_within_barleycornref04 _ _ _ _).mono ?_); rintro e w' ⟨rfl, rfl⟩; rw [hX1'.out])))
   go_ret2
   exact ⟨_, rfl, hbox.below, World.ownsRow_nil _ _ _ _⟩
  | true =>
   obtain rfl : 0 = E := hE
   obtain ⟨a1, a2⟩ := within_iff.1 hX1'.out
   have hr0 := hp.ros0
   have hr1 := hp.ros1
   go_enter Tryz.func34, Tryz.ntmps34
   go_wp2_with (first | (go_at_call 32; ((with_reducible refine (pf_r4_Check _ p _ (hv0.out.below (alc1 _ _)) 0 hF'.out).mono ?_); rintro e w' ⟨rfl, hb1⟩; have hbox := (Box.start w _).next hb1; clear hb1; obtain ⟨p0, p1, p2, p3, p4, p5⟩ := hbox.prog)) | (go_at_call 63; ((with_reducible refine (pf_within_barleycornref04 _ _ _ _).mono ?_); rintro e w' ⟨rfl, rfl⟩; rw [hX1'.out])) | (go_at_call 64; ((with_reducible refine (pf_r4_Shape _ p j _ (hv0.out.below hbox.below) hp (by omega) (by omega)).mono ?_); rintro e w' ⟨v3, rfl, hb2, ho⟩; have ho' := Lib.hid (own_base ho (Nat.succ_le_of_lt hbox.lt)); have hbz := hbox.next hb2; clear ho hb2 hbox p0 p1 p2 p3 p4 p5)))
   have ho := ho'
   clear ho'
   have hL0 := shapeL_length p j
   have hLh := shape_bound hp j
   have hth := hp.throw
   rw [hL0] at ho
   generalize hLe : shapeL p j = L at ho hL0 hLh
   have hLe' := hyd1 hLe
   clear hLe
   obtain ⟨g, c, rfl, hg, hgl, hgc, hgm⟩ := own_form ho.out (by omega)
   unfold maxLen at hgm
   have hadv := hp.adv
   have hst := hp.start
   have hma := mul_adv j p.adv (by omega) hadv
   obtain ⟨A, hA⟩ : ∃ A, p.start + j * p.adv = A := ⟨_, rfl⟩
   have hAb : -6000000 ≤ A ∧ A ≤ 6000000 := by omega
   go_wp2
   go_loopw [8] (fun i wr => ∃ k : Nat, k ≤ p.ros.length ∧ i = .int .i64 k ∧ Box w w.heap.size (.cells #[v0, v1, .int .i64 p.start, .int .i64 p.throw, .int .i64 p.adv, v5] 28) wr ∧ Hid (wr.ownsRow (w.heap.size + 1) 3 1 (.slice (some ⟨g, 0, none⟩) p.ros.length c) p.ros.length ((part (· + A) L k).map vint))) (fun i _ => p.ros.length - (intOf i).toNat)
   case atStart => exact ⟨0, Nat.zero_le _, rfl, hbz, by rw [part_zero]; exact ho⟩
   case round =>
    obtain ⟨k, hk, rfl, hbox, hown⟩ := hrel
    by_cases hlt : k < p.ros.length
    ·have hkL : k < L.length := by omega
     have hlen := part_length (· + A) L k
     have hck := own_cell hown.out (by omega) (part_get (· + A) L k hkL)
     have hfr := hown.out.frozenAt k
     have hx := hLh k hkL
     have hset := part_set (· + A) L k hkL
     generalize L[k] = x at hck hx hset
     have hw1 : IntKind.i64.wrap (j * p.adv) = j * p.adv := IntWalk.i64_in _ (by omega)
     have hw2 : IntKind.i64.wrap (p.start + j * p.adv) = A := by rw [hA]; exact IntWalk.i64_in _ (by omega)
     have hw3 : IntKind.i64.wrap (x + A) = x + A := IntWalk.i64_in _ (by omega)
     obtain ⟨p0, p1, p2, p3, p4, p5⟩ := hbox.prog
     have i1 : (0 : Int) ≤ (k : Int) := by omega
     have i2 : (k : Int) < (p.ros.length : Int) := by omega
     have ⟨hset', hlen', hA'⟩ := hyd3 hset hlen hA
     clear hA hlen hset
     go_wp2
     go_still_tail 13, (by kernel_rfl)
     change wpList _ _ _ _ _ wr.drew
     have hbd := hbox.drew
     have hod : Hid (wr.drew.ownsRow _ _ _ _ _ _) := hown
     clear hck hfr p0 p1 p2 p3 p4 p5 hbox hown
     generalize wr.drew = w4 at hbd hod ⊢
     have hck := own_cell hod.out (by have := hlen'.out; omega) (part_get (· + A) L k hkL)
     have hfr := hod.out.frozenAt k
     go_wp2
     go_roundw
     case rel => exact ⟨k + 1, by omega, by go_num, hbd.set (by omega) (by omega) _, Lib.hid (by have h := own_put hod.out k (x + A); rw [hset'.out] at h; exact h)⟩
     case measure => simp [intOf]; omega
    ·obtain rfl : k = p.ros.length := by omega
     have hfin := hown.out
     rw [← hL0, part_all] at hfin
     have ⟨hfin', hA'⟩ := hyd2 hfin hA
     clear hA hfin
     go_wp2
     go_ret2
     exact ⟨_, rfl, hbox.below, by
      rw [onOk_zero]; unfold cutL; rw [hLe'.out, hA'.out, List.length_map, hL0]; have h := own_base hfin'.out (Nat.le_succ _); rw [hL0] at h; exact h⟩
 ·rw [if_pos hF0] at hE
  subst hE
  have hne : (F != 0) = true := by simpa using hF0
  have hn := Lib.hid (onOk_ne hF0 (cutL p j))
  have ⟨hF', hF0'⟩ := hyd2 hF hF0
  clear hF0 hF
  go_enter Tryz.func34, Tryz.ntmps34
  go_wp2_with (first | (go_at_call 32; ((with_reducible refine (pf_r4_Check _ p _ (hv0.out.below (alc1 _ _)) F hF'.out).mono ?_); rintro e w' ⟨rfl, hb1⟩)))
  go_ret2
  exact ⟨_, rfl, ((Box.start w _).next hb1).below, by rw [hn.out]; exact World.ownsRow_nil _ _ _ _⟩
theorem pf_r9_See (v : Value) (p : Prog) (cuts noise : Int) (w : World) (hv : IsProg w v p) (hc : fit64 cuts) (hno : fit64 noise) :
  Calls Tryz.prog 12 #[v, .int .i64 cuts, .int .i64 noise] w fun e w' => ∃ v', e = .returned (.tuple #[v', .int .i64 (seeE p cuts noise)]) ∧ Below w.heap.size w w' ∧ RdsL w' v' (seeV p cuts noise) := by
 have hv9 := hv
 obtain ⟨v0, v1, v5, rfl, h0, h1, h5⟩ := hv
 obtain ⟨A0, c0, rfl, -⟩ := id h0
 obtain ⟨A1, c1, rfl, -⟩ := id h1
 obtain ⟨A5, c5, rfl, -⟩ := id h5
 obtain ⟨W1, hW1, hb1, k1⟩ := newb w (.cells #[.slice A0 p.ros.length c0, .slice A1 p.rub.length c1, .int .i64 p.start, .int .i64 p.throw, .int .i64 p.adv, .slice A5 p.shifts.length c5] 28)
 obtain ⟨d0, d1, d2, d3, d4, d5⟩ := pc6 k1
 have hv1 := hv9.below hb1
 obtain ⟨E, hE⟩ : ∃ E, progE p = E := ⟨_, rfl⟩
 have kck := pf_r4_Check _ p W1 hv1 E hE
 have w1 := fun W => pf_within_barleycornref09 cuts 1 12 W
 have w2 := fun W => pf_within_barleycornref09 noise 0 1000 W
 have ⟨hv9', h0', h1', h5', hb1', k1', hv1', kck'⟩ := hyd8 hv9 h0 h1 h5 hb1 k1 hv1 kck
 have ⟨hE', w1', w2', hc', hno'⟩ := hyd5 hE w1 w2 hc hno
 clear hno hc w2 w1 hE kck hv1 k1 hb1 h5 h1 h0 hv9
 go_enter Tryz.func12, Tryz.ntmps12
 go_wp2_with (fail)
 clear hW1
 go_at_call 32
 refine kck'.out.mono ?_
 rintro e W2 ⟨rfl, hb2⟩
 have hbw2 := bel_set hb1'.out hb2
 have k2 := blk hb2 k1'.out
 clear d0 d1 d2 d3 d4 d5
 obtain ⟨d0, d1, d2, d3, d4, d5⟩ := pc6 k2
 by_cases hE0 : E = 0
 ·subst hE0
  have hp := benchFacts hE'.out
  obtain ⟨B1, hB1⟩ : ∃ B, within cuts 1 12 = B := ⟨_, rfl⟩
  obtain ⟨B2, hB2⟩ : ∃ B, within noise 0 1000 = B := ⟨_, rfl⟩
  have w1 := w1'.out
  have w2 := w2'.out
  rw [hB1] at w1
  rw [hB2] at w2
  clear w1' w2'
  have ⟨hb2', hbw2', k2', hp', hB1', hB2', w1', w2'⟩ := hyd8 hb2 hbw2 k2 hp hB1 hB2 w1 w2
  clear w2 w1 hB2 hB1 hp k2 hbw2 hb2
  cases B1 with
  | false =>
   have hs := see_arg hE'.out (show (within cuts 1 12 && within noise 0 1000) = false by rw [hB1'.out]; rfl)
   have hs' := hyd1 hs
   clear hs
   go_wp2_with (first | (go_at_call 33; ((with_reducible refine (w1'.out _).mono ?_); rintro e w' ⟨rfl, rfl⟩)))
   exact bodyPost_ret (v := .tuple #[.slice none 0 0, .int .i64 2]) (by simp [results, Tryz.results12, go_sem]) rfl ⟨_, by rw [hs'.out.1], hbw2'.out, by rw [hs'.out.2]; exact SV.nil _⟩
  | true =>
   cases B2 with
   | false =>
    have hs := see_arg hE'.out (show (within cuts 1 12 && within noise 0 1000) = false by rw [hB1'.out, hB2'.out]; rfl)
    have hs' := hyd1 hs
    clear hs
    go_wp2_with (first | (go_at_call 33; ((with_reducible refine (w1'.out _).mono ?_); rintro e w' ⟨rfl, rfl⟩)) | (go_at_call 33; ((with_reducible refine (w2'.out _).mono ?_); rintro e w' ⟨rfl, rfl⟩)))
    exact bodyPost_ret (v := .tuple #[.slice none 0 0, .int .i64 2]) (by simp [results, Tryz.results12, go_sem]) rfl ⟨_, by rw [hs'.out.1], hbw2'.out, by rw [hs'.out.2]; exact SV.nil _⟩
   | true =>
    obtain ⟨r1, r2⟩ := within_iff.1 hB1'.out
    obtain ⟨r3, r4⟩ := within_iff.1 hB2'.out
    obtain ⟨n, rfl⟩ : ∃ n : Nat, cuts = n := ⟨cuts.toNat, by omega⟩
    obtain ⟨st, hst⟩ : ∃ s, p.ros.length = s := ⟨_, rfl⟩
    have hst2 : 3 ≤ st ∧ st ≤ 96 := by have := hp'.out.ros0; have := hp'.out.ros1; omega
    obtain ⟨M, hM⟩ : ∃ M : Nat, n * st = M := ⟨_, rfl⟩
    have hMi : (n : Int) * (st : Int) = (M : Int) := by rw [← hM]; simp
    have hMb : M ≤ 12 * 96 := by rw [← hM]; exact Nat.mul_le_mul (by omega) hst2.2
    rw [hst] at d0
    have hwn : (within (n : Int) 1 12 && within noise 0 1000) = true := by rw [hB1'.out, hB2'.out]; rfl
    have z1 : IntKind.i64.wrap (M : Int) = (M : Int) := IntWalk.i64_in _ (by omega)
    by_cases h60 : 60 < M
    ·have h60i : (60 : Int) < (M : Int) := by omega
     have hs := see_many hE'.out hwn (by rw [hst, hMi]; exact h60i)
     have ⟨hs', hst', hM', hwn'⟩ := hyd4 hs hst hM hwn
     clear hwn hM hst hs
     go_wp2_with (first | (go_at_call 33; ((with_reducible refine (w1'.out _).mono ?_); rintro e w' ⟨rfl, rfl⟩)) | (go_at_call 33; ((with_reducible refine (w2'.out _).mono ?_); rintro e w' ⟨rfl, rfl⟩)))
     exact bodyPost_ret (v := .tuple #[.slice none 0 0, .int .i64 4]) (by simp [results, Tryz.results12, go_sem]) rfl ⟨_, by rw [hs'.out.1], hbw2'.out, by rw [hs'.out.2]; exact SV.nil _⟩
    ·have h60i : ¬ (60 : Int) < (M : Int) := by omega
     have hs := see_ok hE'.out hwn (by rw [hst, hMi]; exact h60i)
     have ⟨hs', hst', hM', hwn'⟩ := hyd4 hs hst hM hwn
     clear hwn hM hst hs
     go_wp2_with (first | (go_at_call 33; ((with_reducible refine (w1'.out _).mono ?_); rintro e w' ⟨rfl, rfl⟩)) | (go_at_call 33; ((with_reducible refine (w2'.out _).mono ?_); rintro e w' ⟨rfl, rfl⟩)))
     have hI0 : SeeI W2 (seeTo p noise 0) (.slice none 0 0) W2 := ⟨Below.refl _ _, World.ownsRow_nil _ _ _ _⟩
     have hI0' := hyd1 hI0
     clear hI0
     go_loopw [10, 9] (fun kx vo wr => ∃ j : Nat, j ≤ n ∧ kx = .int .i64 (j : Int) ∧ Hid (SeeI W2 (seeTo p noise j) vo wr)) (fun kx _ _ => n - (intOf kx).toNat)
     case atStart => exact ⟨0, Nat.zero_le _, rfl, hI0'⟩
     case round =>
      obtain ⟨j, hj, rfl, hI⟩ := hrel
      obtain ⟨hbr, ho⟩ := hI.out
      obtain ⟨AO, cO, rfl⟩ := slice_formR ho
      obtain ⟨N, hN⟩ : ∃ N, (seeTo p noise j).length = N := ⟨_, rfl⟩
      rw [hN]
      rw [hN] at ho
      have hww := bel_set hbw2'.out hbr
      have k3 := blk hbr k2'.out
      clear d0 d1 d2 d3 d4 d5
      obtain ⟨d0, d1, d2, d3, d4, d5⟩ := pc6 k3
      rw [hst'.out] at d0
      by_cases hlt : j < n
      ·have j1 : (j : Int) < (n : Int) := by omega
       have hcE : cutE p (j : Int) = 0 := by
        unfold cutE
        rw [hE'.out, if_neg (by decide), if_pos (within_iff.2 ⟨by omega, by omega⟩)]
       have kcu := pf_r4_CutO _ p (j : Int) wr (hv9'.out.below hww) 0 hcE
       rw [hst'.out] at kcu
       have ⟨hI', hbr', ho', hww', k3', hcE', kcu', hN'⟩ := hyd8 hI hbr ho hww k3 hcE kcu hN
       clear hN kcu hcE k3 hww ho hbr hI
       go_wp2_with (fail)
       go_at_call 34
       refine kcu'.out.mono ?_
       rintro e W3 ⟨vc, rfl, hb3, hoc⟩
       rw [show onOk 0 (cutL p (j : Int)) = cutL p (j : Int) from rfl, cutL_length, hst'.out] at hoc
       obtain ⟨gc, cc, cur, rfl, hgb, hg, hnc, hcm, hcs, htk⟩ : ∃ gc cc cur, vc = .slice (some ⟨gc, 0, none⟩) st cc ∧ wr.heap.size ≤ gc ∧ W3.heap[gc]? = some (.cells cur 3 (0, 0)) ∧ st ≤ cc ∧ cc ≤ maxLen ∧ cur.size = cc * 1 ∧ cur.toList.take (st * 1) = (cutL p (j : Int)).map vint := by
        rcases hoc.2 with ⟨-, e⟩ | h
        ·omega
        ·exact h
       have hcut : ∀ (W : World) (i : Nat), W.heap[gc]? = some (.cells cur 3 (0, 0)) → i < st → W.cell? ⟨gc, i, none⟩ = some (.int .i64 ((cutL p (j : Int)).getD i 0)) := fun W i h hi => by
        have h1 : cur[i]? = some (.int .i64 ((cutL p (j : Int)).getD i 0)) := by
         have h2 : (cur.toList.take (st * 1))[i]? = cur.toList[i]? := List.getElem?_take_of_lt (by omega)
         rw [htk, List.getElem?_map] at h2
         rw [← Array.getElem?_toList, ← h2, List.getD_eq_getElem?_getD, List.getElem?_eq_getElem (by rw [cutL_length, hst'.out]; exact hi)]
         rfl
        have h3 : W.cell? ⟨gc, i, none⟩ = cur[i]? := by simp [World.cell?, h]
        rw [h3, h1]
       have hcb : ∀ i, i < st → -11000 ≤ (cutL p (j : Int)).getD i 0 ∧ (cutL p (j : Int)).getD i 0 ≤ 181000 := fun i hi => cutL_bound hp'.out j (by omega) i (by rw [hst'.out]; exact hi)
       have hJ0 : SeeJ W2 (seeTo p noise j ++ seeRow p noise j 0) gc cur (.slice AO N cO) W3 := ⟨hbr'.out.trans (hb3.mono hbr'.out.size), by rw [show seeRow p noise j 0 = [] from rfl, List.append_nil, hN'.out]; exact own_below ho'.out hb3, hg⟩
       clear hoc hg htk hcs
       have ⟨hJ0', hcut', hcb', hb3'⟩ := hyd4 hJ0 hcut hcb hb3
       clear hb3 hcb hcut hJ0
       clear d0 d1 d2 d3 d4 d5
       go_wp2_with (fail)
       go_loopw [13, 9] (fun kx vo wv => ∃ i : Nat, i ≤ st ∧ kx = .int .i64 (i : Int) ∧ Hid (SeeJ W2 (seeTo p noise j ++ seeRow p noise j i) gc cur vo wv)) (fun kx _ _ => st - (intOf kx).toNat)
       case atStart => exact ⟨0, Nat.zero_le _, rfl, hJ0'⟩
       case round =>
        obtain ⟨i, hi, rfl, hJ⟩ := hrel
        rename World => wv
        obtain ⟨hbv, hov, hgv⟩ := hJ.out
        obtain ⟨AV, cV, rfl⟩ := slice_formR hov
        have hlen : (seeTo p noise j ++ seeRow p noise j i).length = N + i := by rw [List.length_append, hN'.out, seeRow_length]
        obtain ⟨NV, hNV⟩ : ∃ k, N + i = k := ⟨_, rfl⟩
        rw [hlen, hNV] at hov
        rw [hlen, hNV]
        obtain ⟨LL, hLL⟩ : ∃ L, seeTo p noise j ++ seeRow p noise j i = L := ⟨_, rfl⟩
        rw [hLL] at hov hlen hJ
        by_cases hlt2 : i < st
        ·have q0 := hcut'.out wv i hgv hlt2
         have qb := hcb'.out i hlt2
         have hsr : seeTo p noise j ++ seeRow p noise j (i + 1) = LL ++ [⟨(j : Int), (i : Int), (cutL p j).getD i 0 - noise, (cutL p j).getD i 0 + noise⟩] := by rw [seeRow_succ, ← List.append_assoc, hLL]
         obtain ⟨x, hx⟩ : ∃ x, (cutL p (j : Int)).getD i 0 = x := ⟨_, rfl⟩
         rw [hx] at q0 qb hsr
         have j2 : (i : Int) < (st : Int) := by omega
         have j3 : (0 : Int) ≤ (i : Int) := by omega
         obtain ⟨qb1, qb2⟩ := qb
         have hgl : gc < wv.heap.size := (gsl hgv)
         have hrd : ∀ W, Below wv.heap.size wv W → W.cell? ⟨gc, i, none⟩ = some (.int .i64 x) := fun W h => (Below.cell h (p := ⟨gc, i, none⟩) hgl).trans q0
         have hNb : NV ≤ 1200 := by
          have h1 := seeTo_length p noise j
          rw [hN'.out, hst'.out] at h1
          have h2 : j * st ≤ 11 * 96 := Nat.mul_le_mul (by omega) hst2.2
          omega
         clear q0 hi
         have ⟨hJ', hbv', hov', hgv', hlen', hNV', hLL', hsr'⟩ := hyd8 hJ hbv hov hgv hlen hNV hLL hsr
         have ⟨hx', hNb', hrd'⟩ := hyd3 hx hNb hrd
         clear hrd hNb hx hsr hLL hNV hlen hgv hov hbv hJ
         go_wp2_with (fail)
         refine wp_region_monoM (R := leRel) 17 [some 50, some 51, some 52, some 53, some 54, some 55, some 56, some 57, some 58, some 59, some 60, some 61, some 62, some 63, some 64, some 65, some 66, some 67, some 9] [[], [], [], [], [], [3, 4], [5], [], [6, 7], [], [], [9, 10], [11], [], [12, 13], [1, 2, 8, 14], [15], [0, 16], [17]]
          [.eq (.slice AV NV cV), .eq (.int .i64 (j : Int)), .eq (.int .i64 (i : Int)), .eq (.slice (some ⟨gc, 0, none⟩) st cc), .eq (.int .i64 (i : Int)), .eq (.pointer (some ⟨gc, i, none⟩)), .eq (.int .i64 x), .eq (.int .i64 noise), .eq (.int .i64 (x - noise)), .eq (.slice (some ⟨gc, 0, none⟩) st cc), .eq (.int .i64 (i : Int)), .eq (.pointer (some ⟨gc, i, none⟩)), .eq (.int .i64 x), .eq (.int .i64 noise), .eq (.int .i64 (x + noise)), .eq (.agg #[.int .i64 (j : Int), .int .i64 (i : Int), .int .i64 (x - noise), .int .i64 (x + noise)]), MPred.rsB wv.heap.size ⟨(j : Int), (i : Int), x - noise, x + noise⟩] (fun _ _ => False) (by kernel_rfl) (by kernel_rfl) (by kernel_rfl) (by kernel_rfl) (by kernel_rfl) ?_ (fun _ _ _ _ h => h.elim) ?_
         ·simp only [List.take_succ_cons, List.take_zero]
          refine sMc rfl ?_ (sMc rfl ?_ (sMc rfl ?_ (sMc rfl ?_ (sMc rfl ?_ (sMc rfl ?_ (sMc rfl ?_ (sMc rfl ?_ (sMc rfl ?_ (sMc rfl ?_ (sMc rfl ?_ (sMc rfl ?_ (sMc rfl ?_ (sMc rfl ?_ (sMc rfl ?_ (sMc rfl ?_ (sMc rfl ?_ (stepsG_nil)))))))))))))))))
          ·intro xv W hR hf Q hK hP
           simp only [fA] at hK ⊢
           go_wp2
           exact hK _ _ lrR rfl
          ·intro xv W hR hf Q hK hP
           simp only [fA] at hK ⊢
           go_wp2
           exact hK _ _ lrR rfl
          ·intro xv W hR hf Q hK hP
           simp only [fA] at hK ⊢
           go_wp2
           exact hK _ _ lrR rfl
          ·intro xv W hR hf Q hK hP
           simp only [fA] at hK ⊢
           go_wp2
           exact hK _ _ lrR rfl
          ·intro xv W hR hf Q hK hP
           simp only [fA] at hK ⊢
           go_wp2
           exact hK _ _ lrR rfl
          ·intro xv W hR hf Q hK hP
           obtain ⟨e0, e1, -⟩ := hf
           change _ = _ at e0 e1
           simp only [fA, e0, e1] at hK ⊢
           go_wp2
           exact hK _ _ lrR rfl
          ·intro xv W hR hf Q hK hP
           obtain ⟨e0, -⟩ := hf
           change _ = _ at e0
           have cc9 := hrd'.out W hR
           simp only [fA, e0] at hK ⊢
           go_wp2
           exact hK _ _ lrR rfl
          ·intro xv W hR hf Q hK hP
           simp only [fA] at hK ⊢
           go_wp2
           exact hK _ _ lrR rfl
          ·intro xv W hR hf Q hK hP
           obtain ⟨e0, e1, -⟩ := hf
           change _ = _ at e0 e1
           simp only [fA, e0, e1] at hK ⊢
           go_wp2
           exact hK _ _ lrR rfl
          ·intro xv W hR hf Q hK hP
           simp only [fA] at hK ⊢
           go_wp2
           exact hK _ _ lrR rfl
          ·intro xv W hR hf Q hK hP
           simp only [fA] at hK ⊢
           go_wp2
           exact hK _ _ lrR rfl
          ·intro xv W hR hf Q hK hP
           obtain ⟨e0, e1, -⟩ := hf
           change _ = _ at e0 e1
           simp only [fA, e0, e1] at hK ⊢
           go_wp2
           exact hK _ _ lrR rfl
          ·intro xv W hR hf Q hK hP
           obtain ⟨e0, -⟩ := hf
           change _ = _ at e0
           have cc9 := hrd'.out W hR
           simp only [fA, e0] at hK ⊢
           go_wp2
           exact hK _ _ lrR rfl
          ·intro xv W hR hf Q hK hP
           simp only [fA] at hK ⊢
           go_wp2
           exact hK _ _ lrR rfl
          ·intro xv W hR hf Q hK hP
           obtain ⟨e0, e1, -⟩ := hf
           change _ = _ at e0 e1
           simp only [fA, e0, e1] at hK ⊢
           go_wp2
           exact hK _ _ lrR rfl
          ·intro xv W hR hf Q hK hP
           obtain ⟨e0, e1, e2, e3, -⟩ := hf
           change _ = _ at e0 e1 e2 e3
           simp only [fA, e0, e1, e2, e3] at hK ⊢
           go_wp2
           exact hK _ _ lrR rfl
          ·intro xv W hR hf Q hK hP
           obtain ⟨e0, -⟩ := hf
           change _ = _ at e0
           simp only [fA, e0] at hK ⊢
           have zW := Below.size hR
           have hR' := hyd1 hR
           clear hR
           go_wp2
           exact hK _ _ (alc1 _ _) ⟨_, rfl, zW, alc_at _ _⟩
         ·intro xv Wa hR hf Q' hQ1 _
          have e0 : xv 0 = .slice AV NV cV := hf 0 (by decide)
          obtain ⟨X, e9, hX, kX⟩ : RsB wv.heap.size Wa (xv 16) ⟨(j : Int), (i : Int), x - noise, x + noise⟩ := hf 16 (by decide)
          simp only [List.drop_succ_cons, List.drop_zero]
          rw [show List.range 17 = [0, 1, 2, 3, 4, 5, 6, 7, 8, 9, 10, 11, 12, 13, 14, 15, 16] from rfl]
          simp only [fA, e0, e9]
          clear e0 e9 hf
          have hoa := own_below hov'.out hR
          have hbva := bel_set hbv'.out hR
          have hza := hbva.size
          have hga := blk hR hgv'.out
          have hnew : ∀ (k : Nat) (u : Value), (rdEnc ⟨(j : Int), (i : Int), x - noise, x + noise⟩)[k]? = some u → Wa.cell? ⟨X, k, none⟩ = some u := fun k u hu => by
           have hi4 : k < 4 := (List.getElem?_eq_some_iff.1 hu).1
           obtain ⟨na0, na1, na2, na3⟩ := pc4 kX
           match k, hi4 with
           | 0, _ => rw [na0]; simpa [rdEnc] using hu
           | 1, _ => rw [na1]; simpa [rdEnc] using hu
           | 2, _ => rw [na2]; simpa [rdEnc] using hu
           | 3, _ => rw [na3]; simpa [rdEnc] using hu
          have ⟨hR', hoa', hbva', hga', kX', hnew'⟩ := hyd6 hR hoa hbva hga kX hnew
          clear hnew kX hga hbva hoa hR
          go_wp2_with (first | (at_builtin; go_must (refine wpList_appT (enc := rdEnc) (k := 4) (bytes := 32) _ rfl _ _ 23 (fun _ => rfl) (fun x u hu => by simp [rdEnc] at hu; rcases hu with rfl | rfl | rfl | rfl <;> rfl) (by decide) rfl (by decide) rfl W2.heap.size 77 Tryz.underlying23 rdgInfo (.slice AV NV cV) LL rfl (by rw [hlen'.out, hNV'.out]; exact hoa'.out) X ⟨(j : Int), (i : Int), x - noise, x + noise⟩ rfl hnew'.out (by rw [hlen'.out, hNV'.out]; have := hNb'.out; omega) hza ?_)))
          intro v7 w7 q1 q2 q3
          have q1b : w7.ownsRow W2.heap.size 77 4 v7 (NV + 1) ((seeTo p noise j ++ seeRow p noise j (i + 1)).flatMap rdEnc) := by rw [hlen'.out, hNV'.out] at q1; rw [hsr'.out, List.flatMap_append, List.flatMap_singleton]; exact q1
          have hl7 : (seeTo p noise j ++ seeRow p noise j (i + 1)).length = NV + 1 := by rw [hsr'.out, List.length_append, hlen'.out, hNV'.out]; rfl
          obtain ⟨A7, c7, rfl⟩ := slice_formR q1b
          have hN7 : SeeJ W2 (seeTo p noise j ++ seeRow p noise j (i + 1)) gc cur (.slice A7 (NV + 1) c7) w7 := ⟨hbva'.out.trans (own_bel hoa'.out q2 hza), by rw [hl7]; exact q1b, box_kept hoa'.out q2 hga'.out (by decide)⟩
          have ⟨q1', q1b', q2', q3', hl7', hN7'⟩ := hyd6 q1 q1b q2 q3 hl7 hN7
          clear hN7 hl7 q3 q2 q1b q1
          go_wp2
          refine hQ1 _ _ ?_
          clear hQ1
          go_wp2
          go_roundw
          case rel => exact ⟨i + 1, by omega, by go_num, hN7'⟩
          case measure => simp [intOf]; omega
        ·obtain rfl : i = st := by omega
         have hJ9 : SeeI W2 (seeTo p noise (j + 1)) (.slice AV NV cV) wv := ⟨hbv, by rw [seeTo_succ, hst'.out, hLL, hlen, hNV]; exact hov⟩
         have ⟨hJ', hbv', hov', hgv', hlen', hNV', hLL', hJ9'⟩ := hyd8 hJ hbv hov hgv hlen hNV hLL hJ9
         clear hJ9 hLL hNV hlen hgv hov hbv hJ
         go_wp2
         go_roundw
         case rel => exact ⟨j + 1, by omega, by go_num, hJ9'⟩
         case measure => simp [intOf]; omega
      ·obtain rfl : j = n := by omega
       have hrd : RdsL wr (.slice AO N cO) (seeTo p noise j) := SV.of_own (base := W2.heap.size) (e := 77) (enc := rdEnc) (k := 4) (fun _ => rfl) (by rw [hN]; exact ho)
       have ⟨hI', hbr', ho', hww', k3', hN', hrd'⟩ := hyd7 hI hbr ho hww k3 hN hrd
       clear hrd hN k3 hww ho hbr hI
       go_wp2
       exact bodyPost_ret (v := .tuple #[.slice AO N cO, .int .i64 0]) (by simp [results, Tryz.results12, go_sem]) rfl ⟨_, by rw [hs'.out.1], hww'.out, by rw [hs'.out.2]; exact hrd'.out⟩
 ·have hEb : (E != 0) = true := by simpa using hE0
  have hne : ¬ E = 0 := hE0
  have hs := see_prog (cuts := cuts) (noise := noise) hE'.out hE0
  have ⟨hb2', hbw2', k2', hs'⟩ := hyd4 hb2 hbw2 k2 hs
  clear hs k2 hbw2 hb2
  go_wp2
  exact bodyPost_ret (v := .tuple #[.slice none 0 0, .int .i64 E]) (by simp [results, Tryz.results12, go_sem]) rfl ⟨_, by rw [hs'.out.1], hbw2'.out, by rw [hs'.out.2]; exact SV.nil _⟩
end Go.Proofs.YtjdgkmcmgagkgaaGreat
