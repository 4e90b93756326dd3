/- What is seen of a program: read.See. -/
import Derived.Test.YtjdgkmcmgagkgaaGreatP4Moire
import Derived.Test.YtjdgkmcmgagkgaaGreatRdSome
import Derived.Test.YtjdgkmcmgagkgaaGreatReb
namespace Go.Proofs.YtjdgkmcmgagkgaaGreat
set_option maxRecDepth 100000
set_option maxHeartbeats 1000000
open Go.RowKit
set_option linter.unusedVariables false
set_option linter.unusedSimpArgs false
def seeRow (p : Prog) (noise : Int) (j k : Nat) : List Rd := (List.range k).map fun (i : Nat) => ⟨(j : Int), (i : Int), (cutL p j).getD i 0 - noise, (cutL p j).getD i 0 + noise⟩
def seeTo (p : Prog) (noise : Int) (j : Nat) : List Rd := (List.range j).flatMap fun (j : Nat) => seeRow p noise j p.ros.length
def seeE (p : Prog) (cuts noise : Int) : Int := if progE p ≠ 0 then progE p else if !(within cuts 1 12 && within noise 0 1000) then 2 else if 60 < cuts * (p.ros.length : Int) then 4 else 0
def seeV (p : Prog) (cuts noise : Int) : List Rd := if seeE p cuts noise = 0 then seeTo p noise cuts.toNat else []
theorem see_bad {p : Prog} {cuts noise E : Int} (h : seeE p cuts noise = E) (h0 : E ≠ 0) : seeE p cuts noise = E ∧ seeV p cuts noise = [] := ⟨h, by unfold seeV; rw [h, if_neg h0]⟩
theorem see_prog {p : Prog} {cuts noise E : Int} (hE : progE p = E) (h0 : E ≠ 0) : seeE p cuts noise = E ∧ seeV p cuts noise = [] := see_bad (by unfold seeE; rw [hE, if_pos h0]) h0
theorem see_arg {p : Prog} {cuts noise : Int} (hE : progE p = 0) (h : (within cuts 1 12 && within noise 0 1000) = false) : seeE p cuts noise = 2 ∧ seeV p cuts noise = [] := see_bad (by unfold seeE; rw [hE, if_neg (by decide), h]; rfl) (by decide)
theorem see_many {p : Prog} {cuts noise : Int} (hE : progE p = 0) (h : (within cuts 1 12 && within noise 0 1000) = true) (h6 : 60 < cuts * (p.ros.length : Int)) : seeE p cuts noise = 4 ∧ seeV p cuts noise = [] := see_bad (by unfold seeE; rw [hE, if_neg (by decide), h, if_neg (by decide), if_pos h6]) (by decide)
theorem see_ok {p : Prog} {cuts noise : Int} (hE : progE p = 0) (h : (within cuts 1 12 && within noise 0 1000) = true) (h6 : ¬ 60 < cuts * (p.ros.length : Int)) : seeE p cuts noise = 0 ∧ seeV p cuts noise = seeTo p noise cuts.toNat := by
 have e : seeE p cuts noise = 0 := by unfold seeE; rw [hE, if_neg (by decide), h, if_neg (by decide), if_neg h6]
 exact ⟨e, by unfold seeV; rw [e, if_pos rfl]⟩
theorem seeRow_succ (p : Prog) (noise : Int) (j k : Nat) : seeRow p noise j (k + 1) = seeRow p noise j k ++ [⟨(j : Int), (k : Int), (cutL p j).getD k 0 - noise, (cutL p j).getD k 0 + noise⟩] := by unfold seeRow; rw [List.range_succ, List.map_append]; rfl
theorem seeTo_succ (p : Prog) (noise : Int) (j : Nat) : seeTo p noise (j + 1) = seeTo p noise j ++ seeRow p noise j p.ros.length := by unfold seeTo; rw [List.range_succ, List.flatMap_append]; simp
theorem seeRow_length (p : Prog) (noise : Int) (j k : Nat) : (seeRow p noise j k).length = k := by simp [seeRow]
theorem seeTo_length (p : Prog) (noise : Int) (j : Nat) : (seeTo p noise j).length = j * p.ros.length := by
 induction j with
 | zero => simp [seeTo]
 | succ j ih => rw [seeTo_succ, List.length_append, ih, seeRow_length, Nat.add_mul, Nat.one_mul]
theorem cutL_bound {p : Prog} (hp : BenchFacts p) (j : Nat) (hj : j ≤ 11) (i : Nat) (hi : i < p.ros.length) : -11000 ≤ (cutL p j).getD i 0 ∧ (cutL p j).getD i 0 ≤ 181000 := by
 have hl : i < (cutL p j).length := by rw [cutL_length]; exact hi
 rw [List.getD_eq_getElem?_getD, List.getElem?_eq_getElem hl]
 show -11000 ≤ (cutL p j)[i] ∧ (cutL p j)[i] ≤ 181000
 rw [cutL_get]
 have hlo := rosOk_iff.1 (lift_ok hp.ros hp.rub)
 obtain ⟨q, hq, -, e⟩ := atR_rep (liftL p.ros p.rub) (by omega) ((i : Int) - phaseI p j)
 rw [e]
 have hb := hlo.2.2 q hq
 have h1 := hp.start
 have h2 := hp.throw
 have h3 := hp.adv
 have m1 := Int.mul_nonneg (show (0 : Int) ≤ p.throw by omega) hb.1
 have m2 := Int.mul_le_mul h2.2 hb.2 hb.1 (by decide)
 have m3 := Int.mul_le_mul_of_nonneg_left h3.1 (show (0 : Int) ≤ (j : Int) by omega)
 have m4 := Int.mul_le_mul_of_nonneg_left h3.2 (show (0 : Int) ≤ (j : Int) by omega)
 omega
def SeeI (W1 : World) (L : List Rd) (vo : Value) (W : World) : Prop := Below W1.heap.size W1 W ∧ W.ownsRow W1.heap.size 77 4 vo L.length (L.flatMap rdEnc)
theorem box_kept {w w' : World} {base e size n X : Nat} {v : Value} {xs : List Value} {cs : Array Value} {t : TypeId} (h : w.ownsRow base e size v n xs) (hg : w.grownBy w' v.ownBlock) (hX : w.heap[X]? = some (.cells cs t (0, 0))) (ht : e ≠ t) : w'.heap[X]? = some (.cells cs t (0, 0)) := by
 refine (hg.block X (gsl hX) (fun he => ?_)).trans hX
 rcases h.2 with ⟨rfl, _⟩ | ⟨g, cap, cur, rfl, -, hh, -⟩
 ·simp [Value.ownBlock] at he
 ·have : X = g := by simpa [Value.ownBlock] using he
  subst this
  rw [hX] at hh
  injection hh with hh
  injection hh with _ hh
  exact ht hh.symm
def SeeJ (W1 : World) (L : List Rd) (gc : Nat) (cur : Array Value) (vo : Value) (W : World) : Prop := Below W1.heap.size W1 W ∧ W.ownsRow W1.heap.size 77 4 vo L.length (L.flatMap rdEnc) ∧ W.heap[gc]? = some (.cells cur 3 (0, 0))
theorem pf_rd_See (v : Value) (p : Prog) (cuts noise : Int) (w : World) (hv : IsProg w v p) (hc : fit64 cuts) (hno : fit64 noise) :
  Calls Tryz.prog 11 #[v, .int .i64 cuts, .int .i64 noise] w fun e w' => ∃ v', e = .returned (.tuple #[v', .int .i64 (seeE p cuts noise)]) ∧ Below w.heap.size w w' ∧ RdsL w' v' (seeV p cuts noise) := by
 have hv9 := hv
 obtain ⟨v0, v1, v5, rfl, h0, h1, h5⟩ := hv
 obtain ⟨A0, c0, rfl, -⟩ := id h0
 obtain ⟨A1, c1, rfl, -⟩ := id h1
 obtain ⟨A5, c5, rfl, -⟩ := id h5
 obtain ⟨W1, hW1, hb1, k1⟩ := newb w (.cells #[.slice A0 p.ros.length c0, .slice A1 p.rub.length c1, .int .i64 p.start, .int .i64 p.throw, .int .i64 p.adv, .slice A5 p.shifts.length c5] 28)
 obtain ⟨d0, d1, d2, d3, d4, d5⟩ := pc6 k1
 have hv1 := hv9.below hb1
 obtain ⟨E, hE⟩ : ∃ E, progE p = E := ⟨_, rfl⟩
 have kck := pf_pat_Check _ p W1 hv1 E hE
 have w1 := fun W => pf_within_read cuts 1 12 W
 have w2 := fun W => pf_within_read noise 0 1000 W
 have ⟨hv9', h0', h1', h5', hb1', k1', hv1', kck'⟩ := hyd8 hv9 h0 h1 h5 hb1 k1 hv1 kck
 have ⟨hE', w1', w2', hc', hno'⟩ := hyd5 hE w1 w2 hc hno
 clear hno hc w2 w1 hE kck hv1 k1 hb1 h5 h1 h0 hv9
 go_enter Tryz.func11, Tryz.ntmps11
 go_wp2_with (fail)
 clear hW1
 go_at_call 20
 refine kck'.out.mono ?_
 rintro e W2 ⟨rfl, hb2⟩
 have hbw2 := bel_set hb1'.out hb2
 have k2 := blk hb2 k1'.out
 clear d0 d1 d2 d3 d4 d5
 obtain ⟨d0, d1, d2, d3, d4, d5⟩ := pc6 k2
 by_cases hE0 : E = 0
 ·subst hE0
  have hp := benchFacts hE'.out
  obtain ⟨B1, hB1⟩ : ∃ B, within cuts 1 12 = B := ⟨_, rfl⟩
  obtain ⟨B2, hB2⟩ : ∃ B, within noise 0 1000 = B := ⟨_, rfl⟩
  have w1 := w1'.out
  have w2 := w2'.out
  rw [hB1] at w1
  rw [hB2] at w2
  clear w1' w2'
  have ⟨hb2', hbw2', k2', hp', hB1', hB2', w1', w2'⟩ := hyd8 hb2 hbw2 k2 hp hB1 hB2 w1 w2
  clear w2 w1 hB2 hB1 hp k2 hbw2 hb2
  cases B1 with
  | false =>
   have hs := see_arg hE'.out (show (within cuts 1 12 && within noise 0 1000) = false by rw [hB1'.out]; rfl)
   have hs' := hyd1 hs
   clear hs
   go_wp2_with (first | (go_at_call 30; ((with_reducible refine (w1'.out _).mono ?_); rintro e w' ⟨rfl, rfl⟩)))
   exact bodyPost_ret (v := .tuple #[.slice none 0 0, .int .i64 2]) (by simp [results, Tryz.results11, go_sem]) rfl ⟨_, by rw [hs'.out.1], hbw2'.out, by rw [hs'.out.2]; exact SV.nil _⟩
  | true =>
   cases B2 with
   | false =>
    have hs := see_arg hE'.out (show (within cuts 1 12 && within noise 0 1000) = false by rw [hB1'.out, hB2'.out]; rfl)
    have hs' := hyd1 hs
    clear hs
    go_wp2_with (first | (go_at_call 30; ((with_reducible refine (w1'.out _).mono ?_); rintro e w' ⟨rfl, rfl⟩)) | (go_at_call 30; ((with_reducible refine (w2'.out _).mono ?_); rintro e w' ⟨rfl, rfl⟩)))
    exact bodyPost_ret (v := .tuple #[.slice none 0 0, .int .i64 2]) (by simp [results, Tryz.results11, go_sem]) rfl ⟨_, by rw [hs'.out.1], hbw2'.out, by rw [hs'.out.2]; exact SV.nil _⟩
   | true =>
    obtain ⟨r1, r2⟩ := within_iff.1 hB1'.out
    obtain ⟨r3, r4⟩ := within_iff.1 hB2'.out
    obtain ⟨n, rfl⟩ : ∃ n : Nat, cuts = n := ⟨cuts.toNat, by omega⟩
    obtain ⟨st, hst⟩ : ∃ s, p.ros.length = s := ⟨_, rfl⟩
    have hst2 : 3 ≤ st ∧ st ≤ 96 := by have := hp'.out.ros0; have := hp'.out.ros1; omega
    obtain ⟨M, hM⟩ : ∃ M : Nat, n * st = M := ⟨_, rfl⟩
    have hMi : (n : Int) * (st : Int) = (M : Int) := by rw [← hM]; simp
    have hMb : M ≤ 12 * 96 := by rw [← hM]; exact Nat.mul_le_mul (by omega) hst2.2
    rw [hst] at d0
    have hwn : (within (n : Int) 1 12 && within noise 0 1000) = true := by rw [hB1'.out, hB2'.out]; rfl
    have z1 : IntKind.i64.wrap (M : Int) = (M : Int) := IntWalk.i64_in _ (by omega)
    by_cases h60 : 60 < M
    ·have h60i : (60 : Int) < (M : Int) := by omega
     have hs := see_many hE'.out hwn (by rw [hst, hMi]; exact h60i)
     have ⟨hs', hst', hM', hwn'⟩ := hyd4 hs hst hM hwn
     clear hwn hM hst hs
     go_wp2_with (first | (go_at_call 30; ((with_reducible refine (w1'.out _).mono ?_); rintro e w' ⟨rfl, rfl⟩)) | (go_at_call 30; ((with_reducible refine (w2'.out _).mono ?_); rintro e w' ⟨rfl, rfl⟩)))
     exact bodyPost_ret (v := .tuple #[.slice none 0 0, .int .i64 4]) (by simp [results, Tryz.results11, go_sem]) rfl ⟨_, by rw [hs'.out.1], hbw2'.out, by rw [hs'.out.2]; exact SV.nil _⟩
    ·have h60i : ¬ (60 : Int) < (M : Int) := by omega
     have hs := see_ok hE'.out hwn (by rw [hst, hMi]; exact h60i)
     have ⟨hs', hst', hM', hwn'⟩ := hyd4 hs hst hM hwn
     clear hwn hM hst hs
     go_wp2_with (first | (go_at_call 30; ((with_reducible refine (w1'.out _).mono ?_); rintro e w' ⟨rfl, rfl⟩)) | (go_at_call 30; ((with_reducible refine (w2'.out _).mono ?_); rintro e w' ⟨rfl, rfl⟩)))
     have hI0 : SeeI W2 (seeTo p noise 0) (.slice none 0 0) W2 := ⟨Below.refl _ _, World.ownsRow_nil _ _ _ _⟩
     have hI0' := hyd1 hI0
     clear hI0
     go_loopw [37, 9] (fun kx vo wr => ∃ j : Nat, j ≤ n ∧ kx = .int .i64 (j : Int) ∧ Hid (SeeI W2 (seeTo p noise j) vo wr)) (fun kx _ _ => n - (intOf kx).toNat)
     case atStart => exact ⟨0, Nat.zero_le _, rfl, hI0'⟩
     case round =>
      obtain ⟨j, hj, rfl, hI⟩ := hrel
      obtain ⟨hbr, ho⟩ := hI.out
      obtain ⟨AO, cO, rfl⟩ := slice_formR ho
      obtain ⟨N, hN⟩ : ∃ N, (seeTo p noise j).length = N := ⟨_, rfl⟩
      rw [hN]
      rw [hN] at ho
      have hww := bel_set hbw2'.out hbr
      have k3 := blk hbr k2'.out
      clear d0 d1 d2 d3 d4 d5
      obtain ⟨d0, d1, d2, d3, d4, d5⟩ := pc6 k3
      rw [hst'.out] at d0
      by_cases hlt : j < n
      ·have j1 : (j : Int) < (n : Int) := by omega
       have hcE : cutE p (j : Int) = 0 := by
        unfold cutE
        rw [hE'.out, if_neg (by decide), if_pos (within_iff.2 ⟨by omega, by omega⟩)]
       have kcu := pf_pat_Cut _ p (j : Int) wr (hv9'.out.below hww) 0 hcE
       rw [hst'.out] at kcu
       have ⟨hI', hbr', ho', hww', k3', hcE', kcu', hN'⟩ := hyd8 hI hbr ho hww k3 hcE kcu hN
       clear hN kcu hcE k3 hww ho hbr hI
       go_wp2_with (fail)
       go_at_call 31
       refine kcu'.out.mono ?_
       rintro e W3 ⟨vc, rfl, hb3, hoc⟩
       rw [show onOk 0 (cutL p (j : Int)) = cutL p (j : Int) from rfl, cutL_length, hst'.out] at hoc
       obtain ⟨gc, cc, cur, rfl, hgb, hg, hnc, hcm, hcs, htk⟩ : ∃ gc cc cur, vc = .slice (some ⟨gc, 0, none⟩) st cc ∧ wr.heap.size ≤ gc ∧ W3.heap[gc]? = some (.cells cur 3 (0, 0)) ∧ st ≤ cc ∧ cc ≤ maxLen ∧ cur.size = cc * 1 ∧ cur.toList.take (st * 1) = (cutL p (j : Int)).map vint := by
        rcases hoc.2 with ⟨-, e⟩ | h
        ·omega
        ·exact h
       have hcut : ∀ (W : World) (i : Nat), W.heap[gc]? = some (.cells cur 3 (0, 0)) → i < st → W.cell? ⟨gc, i, none⟩ = some (.int .i64 ((cutL p (j : Int)).getD i 0)) := fun W i h hi => by
        have h1 : cur[i]? = some (.int .i64 ((cutL p (j : Int)).getD i 0)) := by
         have h2 : (cur.toList.take (st * 1))[i]? = cur.toList[i]? := List.getElem?_take_of_lt (by omega)
         rw [htk, List.getElem?_map] at h2
         rw [← Array.getElem?_toList, ← h2, List.getD_eq_getElem?_getD, List.getElem?_eq_getElem (by rw [cutL_length, hst'.out]; exact hi)]
         rfl
        have h3 : W.cell? ⟨gc, i, none⟩ = cur[i]? := by simp [World.cell?, h]
        rw [h3, h1]
       have hcb : ∀ i, i < st → -11000 ≤ (cutL p (j : Int)).getD i 0 ∧ (cutL p (j : Int)).getD i 0 ≤ 181000 := fun i hi => cutL_bound hp'.out j (by omega) i (by rw [hst'.out]; exact hi)
       have hJ0 : SeeJ W2 (seeTo p noise j ++ seeRow p noise j 0) gc cur (.slice AO N cO) W3 := ⟨hbr'.out.trans (hb3.mono hbr'.out.size), by rw [show seeRow p noise j 0 = [] from rfl, List.append_nil, hN'.out]; exact own_below ho'.out hb3, hg⟩
       clear hoc hg htk hcs
       have ⟨hJ0', hcut', hcb', hb3'⟩ := hyd4 hJ0 hcut hcb hb3
       clear hb3 hcb hcut hJ0
       clear d0 d1 d2 d3 d4 d5
       go_wp2_with (fail)
       go_loopw [51, 9] (fun kx vo wv => ∃ i : Nat, i ≤ st ∧ kx = .int .i64 (i : Int) ∧ Hid (SeeJ W2 (seeTo p noise j ++ seeRow p noise j i) gc cur vo wv)) (fun kx _ _ => st - (intOf kx).toNat)
       case atStart => exact ⟨0, Nat.zero_le _, rfl, hJ0'⟩
       case round =>
        obtain ⟨i, hi, rfl, hJ⟩ := hrel
        rename World => wv
        obtain ⟨hbv, hov, hgv⟩ := hJ.out
        obtain ⟨AV, cV, rfl⟩ := slice_formR hov
        have hlen : (seeTo p noise j ++ seeRow p noise j i).length = N + i := by rw [List.length_append, hN'.out, seeRow_length]
        obtain ⟨NV, hNV⟩ : ∃ k, N + i = k := ⟨_, rfl⟩
        rw [hlen, hNV] at hov
        rw [hlen, hNV]
        obtain ⟨LL, hLL⟩ : ∃ L, seeTo p noise j ++ seeRow p noise j i = L := ⟨_, rfl⟩
        rw [hLL] at hov hlen hJ
        by_cases hlt2 : i < st
        ·have q0 := hcut'.out wv i hgv hlt2
         have qb := hcb'.out i hlt2
         have hsr : seeTo p noise j ++ seeRow p noise j (i + 1) = LL ++ [⟨(j : Int), (i : Int), (cutL p j).getD i 0 - noise, (cutL p j).getD i 0 + noise⟩] := by rw [seeRow_succ, ← List.append_assoc, hLL]
         obtain ⟨x, hx⟩ : ∃ x, (cutL p (j : Int)).getD i 0 = x := ⟨_, rfl⟩
         rw [hx] at q0 qb hsr
         have j2 : (i : Int) < (st : Int) := by omega
         have j3 : (0 : Int) ≤ (i : Int) := by omega
         obtain ⟨qb1, qb2⟩ := qb
         obtain ⟨Wa, hWa, hba, ka⟩ := newb wv (.cells #[.int .i64 (j : Int), .int .i64 (i : Int), .int .i64 (x - noise), .int .i64 (x + noise)] 77)
         obtain ⟨na0, na1, na2, na3⟩ := pc4 ka
         have hnew : ∀ (k : Nat) (u : Value), (rdEnc ⟨(j : Int), (i : Int), x - noise, x + noise⟩)[k]? = some u → Wa.cell? ⟨wv.heap.size, k, none⟩ = some u := fun k u hu => by
          have hi4 : k < 4 := (List.getElem?_eq_some_iff.1 hu).1
          match k, hi4 with
          | 0, _ => rw [na0]; simpa [rdEnc] using hu
          | 1, _ => rw [na1]; simpa [rdEnc] using hu
          | 2, _ => rw [na2]; simpa [rdEnc] using hu
          | 3, _ => rw [na3]; simpa [rdEnc] using hu
         have hoa := own_below hov hba
         have hbva := bel_set hbv hba
         have hza := hbva.size
         have hga := blk hba hgv
         have hNb : NV ≤ 1200 := by
          have h1 := seeTo_length p noise j
          rw [hN'.out, hst'.out] at h1
          have h2 : j * st ≤ 11 * 96 := Nat.mul_le_mul (by omega) hst2.2
          omega
         clear na0 na1 na2 na3 hi
         have ⟨hJ', hbv', hov', hgv', hlen', hNV', hLL', hsr'⟩ := hyd8 hJ hbv hov hgv hlen hNV hLL hsr
         have ⟨hx', hba', ka', hnew', hoa', hbva', hga', hNb'⟩ := hyd8 hx hba ka hnew hoa hbva hga hNb
         clear hNb hga hbva hoa hnew ka hba hx hsr hLL hNV hlen hgv hov hbv hJ
         go_wp2_with (first | (at_builtin; go_must (refine wpList_appT (enc := rdEnc) (k := 4) (bytes := 32) _ rfl _ _ 23 (fun _ => rfl) (fun x u hu => by simp [rdEnc] at hu; rcases hu with rfl | rfl | rfl | rfl <;> rfl) (by decide) rfl (by decide) rfl W2.heap.size 77 Tryz.underlying23 rdgInfo (.slice AV NV cV) LL rfl (by rw [hlen'.out, hNV'.out]; exact hoa'.out) wv.heap.size ⟨(j : Int), (i : Int), x - noise, x + noise⟩ rfl hnew'.out (by rw [hlen'.out, hNV'.out]; have := hNb'.out; omega) hza ?_)))
         intro v7 w7 q1 q2 q3
         have q1b : w7.ownsRow W2.heap.size 77 4 v7 (NV + 1) ((seeTo p noise j ++ seeRow p noise j (i + 1)).flatMap rdEnc) := by rw [hlen'.out, hNV'.out] at q1; rw [hsr'.out, List.flatMap_append, List.flatMap_singleton]; exact q1
         have hl7 : (seeTo p noise j ++ seeRow p noise j (i + 1)).length = NV + 1 := by rw [hsr'.out, List.length_append, hlen'.out, hNV'.out]; rfl
         obtain ⟨A7, c7, rfl⟩ := slice_formR q1b
         have hN7 : SeeJ W2 (seeTo p noise j ++ seeRow p noise j (i + 1)) gc cur (.slice A7 (NV + 1) c7) w7 := ⟨hbva'.out.trans (own_bel hoa'.out q2 hza), by rw [hl7]; exact q1b, box_kept hoa'.out q2 hga'.out (by decide)⟩
         have ⟨q1', q1b', q2', q3', hl7', hN7'⟩ := hyd6 q1 q1b q2 q3 hl7 hN7
         clear hN7 hl7 q3 q2 q1b q1
         go_wp2
         go_roundw
         case rel => exact ⟨i + 1, by omega, by go_num, hN7'⟩
         case measure => simp [intOf]; omega
        ·obtain rfl : i = st := by omega
         have hJ9 : SeeI W2 (seeTo p noise (j + 1)) (.slice AV NV cV) wv := ⟨hbv, by rw [seeTo_succ, hst'.out, hLL, hlen, hNV]; exact hov⟩
         have ⟨hJ', hbv', hov', hgv', hlen', hNV', hLL', hJ9'⟩ := hyd8 hJ hbv hov hgv hlen hNV hLL hJ9
         clear hJ9 hLL hNV hlen hgv hov hbv hJ
         go_wp2
         go_roundw
         case rel => exact ⟨j + 1, by omega, by go_num, hJ9'⟩
         case measure => simp [intOf]; omega
      ·obtain rfl : j = n := by omega
       have hrd : RdsL wr (.slice AO N cO) (seeTo p noise j) := SV.of_own (base := W2.heap.size) (e := 77) (enc := rdEnc) (k := 4) (fun _ => rfl) (by rw [hN]; exact ho)
       have ⟨hI', hbr', ho', hww', k3', hN', hrd'⟩ := hyd7 hI hbr ho hww k3 hN hrd
       clear hrd hN k3 hww ho hbr hI
       go_wp2
       exact bodyPost_ret (v := .tuple #[.slice AO N cO, .int .i64 0]) (by simp [results, Tryz.results11, go_sem]) rfl ⟨_, by rw [hs'.out.1], hww'.out, by rw [hs'.out.2]; exact hrd'.out⟩
 ·have hEb : (E != 0) = true := by simpa using hE0
  have hne : ¬ E = 0 := hE0
  have hs := see_prog (cuts := cuts) (noise := noise) hE'.out hE0
  have ⟨hb2', hbw2', k2', hs'⟩ := hyd4 hb2 hbw2 k2 hs
  clear hs k2 hbw2 hb2
  go_wp2
  exact bodyPost_ret (v := .tuple #[.slice none 0 0, .int .i64 E]) (by simp [results, Tryz.results11, go_sem]) rfl ⟨_, by rw [hs'.out.1], hbw2'.out, by rw [hs'.out.2]; exact SV.nil _⟩
end Go.Proofs.YtjdgkmcmgagkgaaGreat
