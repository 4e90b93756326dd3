/- The reference's Last, in, less. Lists of lists of numbers in memory; the reference's allowed. The reference's listed: the first list of shifts. -/
import Derived.Test.YtkblockodaiigaaRdStartR
import Derived.Test.YtkblockodaiigaaRdJoinR
namespace Go.Proofs.Ytkblockodaiigaa
set_option maxRecDepth 100000
set_option maxHeartbeats 1000000
open Go.RowKit
set_option linter.unusedVariables false
set_option linter.unusedSimpArgs false
theorem pf_r9_Last (v : Value) (p : Pic) (w : World) (hp : IsPic w v p) : Calls Try.prog 39 #[v] w fun e w' => e = .returned (.int .i64 (lastC p.rds)) ∧ Below w.heap.size w w' := by
 obtain ⟨vh, vr, rfl, hh, hrd⟩ := hp
 obtain ⟨HA, hhc, rfl, -⟩ := hh.slice
 obtain ⟨RA, rc, rfl, hrl⟩ := hrd.slice
 unfold maxLen at hrl
 obtain ⟨W0, hW0, hb0, k0⟩ := newb w (.cells #[.slice HA p.hs.length hhc, .int .i64 p.tl, .int .i64 p.th, .int .i64 p.al, .int .i64 p.ah, .slice RA p.rds.length rc] 25)
 have ⟨hh', hrd', hb0', k0'⟩ := hyd4 hh hrd hb0 k0
 clear k0 hb0 hrd hh
 go_enter Try.func39, Try.ntmps39
 go_wp2
 clear hW0
 go_loopw [4, 3] (fun ix mx wr => ∃ j : Nat, j ≤ p.rds.length ∧ ix = .int .i64 j ∧ mx = .int .i64 ((p.rds.take j).foldl (fun m r => max m r.cut) 0) ∧ Hid (Below W0.heap.size W0 wr)) (fun ix _ _ => p.rds.length - (intOf ix).toNat)
 case atStart => exact ⟨0, Nat.zero_le _, rfl, rfl, Lib.hid (Below.refl _ _)⟩
 case round =>
  obtain ⟨j, hj, rfl, rfl, hI⟩ := hrel
  obtain ⟨c0, c1, c2, c3, c4, c5⟩ := pc6 (blk hI.out k0'.out)
  have hbE := bel_set hb0'.out hI.out
  by_cases hlt : j < p.rds.length
  ·have hfold := foldl_take (fun (m : Int) (r : Rd) => max m r.cut) 0 p.rds j hlt
   obtain ⟨bq, off, rc2, heq, hbl, g0, g1, g2, g3⟩ := RdsL.cells (hrd'.out.le hbE) hlt
   injection heq with e1 e2 e3
   subst e1 e3
   clear e2 g1 g2 g3
   obtain ⟨m, hm⟩ : ∃ m, (p.rds.take j).foldl (fun (m : Int) (r : Rd) => max m r.cut) 0 = m := ⟨_, rfl⟩
   obtain ⟨x, hx⟩ : ∃ x, p.rds[j].cut = x := ⟨_, rfl⟩
   rw [hx] at g0
   rw [hm, hx, ← ifmax] at hfold
   have j1 : (j : Int) < (p.rds.length : Int) := by omega
   have j2 : (0 : Int) ≤ (j : Int) := by omega
   have ⟨hfold', hbE', hx'⟩ := hyd3 hfold hbE hx
   clear hx hbE hfold
   go_wp2
   go_roundw
   case rel => exact ⟨j + 1, by omega, by go_num, by rw [hfold'.out], hI⟩
   case measure => simp [intOf]; omega
  ·obtain rfl : j = p.rds.length := by omega
   rw [List.take_length]
   have hbE' := hyd1 hbE
   clear hbE
   go_wp2
   go_ret
   exact ⟨rfl, hbE'.out⟩
theorem pf_r9_in (v : Value) (l : List Int) (x : Int) (w : World) (hv : Ints w v l) : Calls Try.prog 105 #[v, .int .i64 x] w fun e w' => e = .returned (.bool (memI l x)) ∧ w = w' := by
 obtain ⟨A, c, rfl, hlc, hcm, -, hr⟩ := id hv
 unfold maxLen at hcm
 clear hr
 have hv' := hyd1 hv
 clear hv
 go_enter Try.func105, Try.ntmps105
 go_wp2
 go_loopw [5] (fun ix wr => ∃ j : Nat, j ≤ l.length ∧ ix = .int .i64 j ∧ w = wr ∧ Hid (∀ i (hi : i < l.length), i < j → l[i] ≠ x)) (fun ix _ => l.length - (intOf ix).toNat)
 case atStart => exact ⟨0, Nat.zero_le _, rfl, rfl, Lib.hid fun i _ h => absurd h (Nat.not_lt_zero i)⟩
 case round =>
  obtain ⟨j, hj, rfl, rfl, hI⟩ := hrel
  by_cases hlt : j < l.length
  ·obtain ⟨b, off, c2, heq, hb, -, -, hcell⟩ := Ints.cells hv'.out (by omega)
   injection heq with e1 e2 e3
   subst e1 e3
   clear e2
   have hc := hcell j hlt
   obtain ⟨y, hy⟩ : ∃ y, l[j] = y := ⟨_, rfl⟩
   rw [hy] at hc
   have j1 : (j : Int) < (l.length : Int) := by omega
   have j2 : (0 : Int) ≤ (j : Int) := by omega
   by_cases hyx : y = x
   ·have hmem : memI l x = true := by unfold memI; rw [List.any_eq_true]; exact ⟨y, by rw [← hy]; exact List.getElem_mem hlt, by simpa using hyx⟩
    have ⟨hcell', hy', hmem'⟩ := hyd3 hcell hy hmem
    clear hmem hy hcell
    go_wp2
    go_ret
    exact ⟨by rw [hmem'.out]; rfl, rfl⟩
   ·have ⟨hcell', hy'⟩ := hyd2 hcell hy
    clear hy hcell
    go_wp2
    go_roundw
    case rel => exact ⟨j + 1, by omega, by go_num, trivial, Lib.hid fun i hi hij => by
     by_cases e : i = j
     ·subst e; rw [hy'.out]; exact hyx
     ·exact hI.out i hi (by omega)⟩
    case measure => simp [intOf]; omega
  ·have hmem : memI l x = false := by
    unfold memI
    rw [List.any_eq_false]
    intro y hy
    obtain ⟨i, hi, rfl⟩ := List.getElem_of_mem hy
    simpa using hI.out i hi (by omega)
   have hmem' := hyd1 hmem
   clear hmem
   go_wp2
   go_ret
   exact ⟨by rw [hmem'.out]; rfl, rfl⟩
theorem lessL_drop {xs ys : List Int} : ∀ (i : Nat), (∀ j (h1 : j < xs.length) (h2 : j < ys.length), j < i → xs[j] = ys[j]) → i ≤ xs.length → xs.length = ys.length → lessL xs ys = lessL (xs.drop i) (ys.drop i)
 | 0, _, _, _ => rfl
 | i + 1, h, hi, hl => by
  rw [lessL_drop i (fun j h1 h2 hj => h j h1 h2 (by omega)) (by omega) hl, List.drop_eq_getElem_cons (show i < xs.length by omega), List.drop_eq_getElem_cons (show i < ys.length by omega)]
  conv => lhs; unfold lessL
  rw [if_pos (h i (by omega) (by omega) (by omega))]
theorem pf_r9_less (va vb : Value) (xs ys : List Int) (w : World) (ha : Ints w va xs) (hb : Ints w vb ys) (hl : xs.length = ys.length) : Calls Try.prog 46 #[va, vb] w fun e w' => e = .returned (.bool (lessL xs ys)) ∧ ∃ n, w' = w.drewN n := by
 obtain ⟨A, c, rfl, hlc, hcm, -, hr⟩ := id ha
 obtain ⟨B, d, rfl, hld, hdm, -, hr2⟩ := id hb
 unfold maxLen at hcm hdm
 clear hr hr2
 have hl2 : xs.length ≤ ys.length := by omega
 have hl3 : ys.length ≤ xs.length := by omega
 have ⟨ha', hb', hl'⟩ := hyd3 ha hb hl
 clear hl hb ha
 go_enter Try.func46, Try.ntmps46
 go_wp2
 go_loopw [5] (fun ix wr => ∃ j : Nat, j ≤ xs.length ∧ ix = .int .i64 j ∧ Hid (∃ n, wr = w.drewN n) ∧ Hid (∀ i (h1 : i < xs.length) (h2 : i < ys.length), i < j → xs[i] = ys[i])) (fun ix _ => xs.length - (intOf ix).toNat)
 case atStart => exact ⟨0, Nat.zero_le _, rfl, Lib.hid ⟨0, rfl⟩, Lib.hid fun i _ _ h => absurd h (Nat.not_lt_zero i)⟩
 case round =>
  obtain ⟨j, hj, rfl, hN, hI⟩ := hrel
  obtain ⟨n, hn⟩ := hN.out
  by_cases hlt : j < xs.length
  ·obtain ⟨b, off, c2, heq, hb1, -, -, hcell⟩ := Ints.cells ha'.out (by omega)
   injection heq with e1 e2 e3
   subst e1 e3
   clear e2
   obtain ⟨b2, off2, c2, heq, hb2, -, -, hcell2⟩ := Ints.cells hb'.out (by omega)
   injection heq with e1 e2 e3
   subst e1 e3
   clear e2
   have hc := hcell j hlt
   have hd := hcell2 j (by omega)
   have hq : ∀ p, wr.cell? p = w.cell? p := fun p => by rw [hn]; simp
   rw [← hq] at hc hd
   clear hq
   have hdrop := lessL_drop j hI.out hj hl'.out
   rw [List.drop_eq_getElem_cons hlt, List.drop_eq_getElem_cons (show j < ys.length by omega)] at hdrop
   conv at hdrop => rhs; unfold lessL
   obtain ⟨x, hx⟩ : ∃ y, xs[j] = y := ⟨_, rfl⟩
   obtain ⟨y, hy⟩ : ∃ y, ys[j]'(by omega) = y := ⟨_, rfl⟩
   rw [hx] at hc hdrop
   rw [hy] at hd hdrop
   have j1 : (j : Int) < (xs.length : Int) := by omega
   have j2 : (0 : Int) ≤ (j : Int) := by omega
   have j3 : (j : Int) < (ys.length : Int) := by omega
   by_cases hxy : x = y
   ·subst hxy
    have ⟨hcell', hcell2', hx', hy', hn', hdrop'⟩ := hyd6 hcell hcell2 hx hy hn hdrop
    clear hdrop hn hy hx hcell2 hcell
    go_wp2
    go_quiet (fail)
    go_wp2
    go_roundw
    case rel => exact ⟨j + 1, by omega, by go_num, Lib.hid ⟨n + nq, by rw [hn'.out]; exact World.drewN_drewN _ _ _⟩, Lib.hid fun i h1 h2 hij => by
     by_cases e : i = j
     ·subst e; rw [hx'.out, hy'.out]
     ·exact hI.out i h1 h2 (by omega)⟩
    case measure => simp [intOf]; omega
   ·rw [if_neg hxy] at hdrop
    have ⟨hcell', hcell2', hx', hy', hn', hdrop'⟩ := hyd6 hcell hcell2 hx hy hn hdrop
    clear hdrop hn hy hx hcell2 hcell
    go_wp2
    go_quiet (fail)
    have hc2 : (wr.drewN nq).cell? ⟨b, off + j, none⟩ = some (.int .i64 x) := by simpa using hc
    have hd2 : (wr.drewN nq).cell? ⟨b2, off2 + j, none⟩ = some (.int .i64 y) := by simpa using hd
    obtain ⟨w4, hw4⟩ : ∃ W, wr.drewN nq = W := ⟨_, rfl⟩
    rw [hw4] at hc2 hd2
    have hn4 : w4 = w.drewN (n + nq) := by rw [← hw4, hn'.out]; exact World.drewN_drewN _ _ _
    clear hc hd
    have hn4' := hyd1 hn4
    clear hn4
    rw [hw4]
    clear hw4
    go_wp2
    go_quiet (fail)
    go_wp2
    go_ret
    exact ⟨by rw [hdrop'.out]; rfl, ⟨_, by rw [hn4'.out]; exact World.drewN_drewN _ _ _⟩⟩
  ·have hfin : lessL xs ys = false := by
    rw [lessL_drop j hI.out hj hl'.out, List.drop_of_length_le (show xs.length ≤ j by omega)]
    rfl
   have ⟨hfin', hn'⟩ := hyd2 hfin hn
   clear hn hfin
   go_wp2
   go_ret
   exact ⟨by rw [hfin'.out]; rfl, n, hn'.out⟩
end Go.Proofs.Ytkblockodaiigaa
namespace Go.Proofs.Ytkblockodaiigaa
set_option maxRecDepth 100000
set_option maxHeartbeats 1000000
open Go.RowKit
set_option linter.unusedVariables false
set_option linter.unusedSimpArgs false
def GridL (w : World) (v : Value) (L : List (List Int)) : Prop :=
 ∃ A c, v = .slice A L.length c ∧ L.length ≤ c ∧ c ≤ maxLen ∧ (A = none → c = 0) ∧
  (0 < L.length → ∃ b off, A = some ⟨b, off, none⟩ ∧ b < w.heap.size ∧ ∀ j (h : j < L.length), ∃ vr, w.cell? ⟨b, off + j, none⟩ = some vr ∧ Ints w vr L[j])
theorem GridL.le {w W : World} {v : Value} {L : List (List Int)} (h : GridL w v L) (hb : Below w.heap.size w W) : GridL W v L := by
 obtain ⟨A, c, hv, h1, h2, hN, h3⟩ := h
 refine ⟨A, c, hv, h1, h2, hN, fun h0 => ?_⟩
 obtain ⟨b, off, ha, hlt, hc⟩ := h3 h0
 refine ⟨b, off, ha, Nat.lt_of_lt_of_le hlt hb.size, fun j hj => ?_⟩
 obtain ⟨vr, c0, i0⟩ := hc j hj
 exact ⟨vr, (Below.cell hb (p := ⟨b, _, none⟩) hlt).trans c0, i0.below hb⟩
theorem GridL.at {w : World} {v : Value} {L : List (List Int)} (h : GridL w v L) {j : Nat} (hj : j < L.length) : ∃ b off c vr, v = .slice (some ⟨b, off, none⟩) L.length c ∧ b < w.heap.size ∧ w.cell? ⟨b, off + j, none⟩ = some vr ∧ Ints w vr L[j] := by
 obtain ⟨A, c, rfl, h1, h2, hN, h3⟩ := h
 obtain ⟨b, off, rfl, hlt, hc⟩ := h3 (by omega)
 obtain ⟨vr, c0, i0⟩ := hc j hj
 exact ⟨b, off, c, vr, rfl, hlt, c0, i0⟩
theorem GridL.slice {w : World} {v : Value} {L : List (List Int)} (h : GridL w v L) : ∃ A c, v = .slice A L.length c ∧ L.length ≤ maxLen := by
 obtain ⟨A, c, rfl, h1, h2, -⟩ := h
 exact ⟨A, c, rfl, by omega⟩
theorem pf_r9_allowed (v : Value) (L : List (List Int)) (steps n r : Nat) (first sum all : Int) (w : World) (hv : GridL w v L) (hL : L.length ≤ 1000) (hn : 0 < n) (hn2 : n ≤ 12) (hr : r < n) (hs : 0 < steps) (hs2 : steps ≤ 96) (hf : 0 ≤ first ∧ first < steps) (hsum : 0 ≤ sum ∧ sum < steps) (hall : 0 ≤ all ∧ all < steps) :
  Calls Try.prog 80 #[v, .int .i64 (steps : Int), .int .i64 (n : Int), .int .i64 (r : Int), .int .i64 first, .int .i64 sum, .int .i64 all] w fun e w' => e = .returned (.bool (allowB L steps n r (first + sum) all)) ∧ ∃ q, w' = w.drewN q := by
 obtain ⟨A, c, rfl, hlm⟩ := hv.slice
 have hv' := hyd1 hv
 clear hv
 go_enter Try.func80, Try.ntmps80
 go_wp2
 go_loopw [15] (fun jx wr => ∃ i : Nat, jx = .int .i64 ((r + i * n : Nat) : Int) ∧ Hid (∃ q, wr = w.drewN q) ∧ Hid (allowB L steps n r (first + sum) all = allowB L steps n (r + i * n) (first + sum + (i : Int) * all) all ∧ r + i * n ≤ L.length + 12)) (fun jx _ => L.length + 12 - (intOf jx).toNat)
 case atStart => exact ⟨0, by simp, Lib.hid ⟨0, rfl⟩, Lib.hid ⟨by simp, by omega⟩⟩
 case round =>
  obtain ⟨i, rfl, hN, hI⟩ := hrel
  obtain ⟨q, hq⟩ := hN.out
  obtain ⟨heq, hjb⟩ := hI.out
  obtain ⟨j, hj⟩ : ∃ j, r + i * n = j := ⟨_, rfl⟩
  rw [hj] at heq hjb ⊢
  have hstep := allowB_step (L := L) (steps := steps) (all := all) hn j (first + sum + (i : Int) * all)
  by_cases hlt : j < L.length
  ·obtain ⟨b, off, c2, vr, he, hb, hc, hi⟩ := hv'.out.at hlt
   injection he with e1 e2 e3
   subst e1 e3
   clear e2
   rw [if_pos hlt] at hstep
   have hdiv : j / n = i := by rw [← hj, Nat.mul_comm, Nat.add_mul_div_left _ _ hn, Nat.div_eq_of_lt hr, Nat.zero_add]
   have hdivI : (j : Int) / (n : Int) = (i : Int) := by rw [← hdiv]; rfl
   have hil : i ≤ 1000 := by
    have : i * 1 ≤ i * n := Nat.mul_le_mul_left _ hn
    omega
   have hg : L.getD j [] = L[j] := by rw [List.getD_eq_getElem?_getD, List.getElem?_eq_getElem hlt]; rfl
   rw [hg] at hstep
   obtain ⟨pr, hpr⟩ : ∃ p, (i : Int) * all = p := ⟨_, rfl⟩
   have hp := mul_in (a := (i : Int)) (b := all) (A := 1000) (B := 96) (by omega) (by omega) (by omega) (by omega) (by decide)
   have hp0 := Int.mul_nonneg (show (0 : Int) ≤ (i : Int) by omega) hall.1
   rw [hpr] at hp hp0 hstep heq
   obtain ⟨x, hx⟩ : ∃ x, (first + sum + pr) % (steps : Int) = x := ⟨_, rfl⟩
   have hx0 := Int.emod_nonneg (first + sum + pr) (show (steps : Int) ≠ 0 by omega)
   have hx1 := Int.emod_lt_of_pos (first + sum + pr) (show (0 : Int) < steps by omega)
   rw [hx] at hx0 hx1 hstep
   obtain ⟨B, hB⟩ : ∃ B, memI L[j] x = B := ⟨_, rfl⟩
   rw [hB] at hstep
   have hle : ∀ k, Below w.heap.size w (wr.drewN k) := fun k => by rw [hq, World.drewN_drewN]; exact below_drewN' (Below.refl _ _) _
   have kin : ∀ k, Calls Try.prog 105 #[vr, .int .i64 x] (wr.drewN k) fun e w' => e = .returned (.bool B) ∧ wr.drewN k = w' := fun k => by
    have := pf_r9_in vr L[j] x (wr.drewN k) (hi.below (hle k))
    rwa [hB] at this
   have hcw : wr.cell? ⟨b, off + j, none⟩ = some vr := by rw [hq]; simpa using hc
   obtain ⟨VA, vc, rfl, -⟩ := id hi
   have j1 : (j : Int) < (L.length : Int) := by omega
   have j2 : (0 : Int) ≤ (j : Int) := by omega
   have j3 : ¬ (n : Int) = 0 := by omega
   have j4 : ¬ (steps : Int) = 0 := by omega
   have j5 : 0 ≤ first + sum + pr := by omega
   have hLj : L[j].length = L[j].length := rfl
   have hstep2 : allowB L steps n r (first + sum) all = (B && allowB L steps n (r + (i + 1) * n) (first + sum + ((i + 1 : Nat) : Int) * all) all) := by
    rw [heq, hstep, show r + (i + 1) * n = j + n by rw [Nat.add_mul]; omega, show first + sum + ((i + 1 : Nat) : Int) * all = first + sum + pr + all by rw [← hpr]; push_cast; rw [Int.add_mul]; omega]
   have hjn : ((r + (i + 1) * n : Nat) : Int) = (j : Int) + (n : Int) := by rw [Nat.add_mul]; omega
   have hjb2 : r + (i + 1) * n ≤ L.length + 12 := by rw [Nat.add_mul]; omega
   have hj9 : (j : Int) ≤ 2000 := by omega
   have ⟨hN', hI', hq', hc', hi', heq', hstep', hg'⟩ := hyd8 hN hI hq hc hi heq hstep hg
   have ⟨hdiv', hB', hle', kin', hstep2', hjn', hjb2', hj'⟩ := hyd8 hdiv hB hle kin hstep2 hjn hjb2 hj
   clear hj hjb2 hjn hstep2 kin hle hB hdiv hg hstep heq hi hc hq hI hN
   go_wp2
   go_quiet ((go_at_call 105; with_reducible exact quiet_same' (kin'.out _)))
   have hq4 : ∃ k, wr.drewN nq = w.drewN k := ⟨_, by rw [hq'.out]; exact World.drewN_drewN _ _ _⟩
   generalize wr.drewN nq = w4 at hq4 ⊢
   have hq4' := hyd1 hq4
   clear hq4
   cases B with
   | true =>
    go_wp2
    go_roundw
    case rel => exact ⟨i + 1, by rw [hjn'.out], hq4', Lib.hid ⟨by rw [hstep2'.out]; rfl, hjb2'.out⟩⟩
    case measure => simp [intOf]; omega
   | false =>
    go_wp2
    go_ret
    exact ⟨by rw [hstep2'.out]; rfl, hq4'.out⟩
  ·rw [if_neg hlt] at hstep
   have hfin : allowB L steps n r (first + sum) all = true := by rw [heq, hstep]
   have j1 : ¬ (j : Int) < (L.length : Int) := by omega
   have ⟨hN', hI', hq', heq', hstep', hj', hfin'⟩ := hyd7 hN hI hq heq hstep hj hfin
   clear hfin hj hstep heq hq hI hN
   go_wp2
   go_ret
   exact ⟨by rw [hfin'.out]; rfl, hN'.out.out⟩
end Go.Proofs.Ytkblockodaiigaa
namespace Go.Proofs.Ytkblockodaiigaa
set_option maxRecDepth 100000
set_option maxHeartbeats 1000000
open Go.RowKit
set_option linter.unusedVariables false
set_option linter.unusedSimpArgs false
theorem shiftAt_some {L : List (List Int)} {steps n r s : Nat} {ph all : Int} (h : s < steps) (hs : allowB L steps n r (ph + (s : Int)) all = true) (hb : ∀ t, t < s → allowB L steps n r (ph + (t : Int)) all = false) : shiftAt L steps n r ph all = some s := by
 unfold shiftAt
 rw [List.find?_range_eq_some]
 exact ⟨hs, List.mem_range.2 h, fun j hj => by rw [hb j hj]; rfl⟩
theorem shiftAt_none {L : List (List Int)} {steps n r : Nat} {ph all : Int} (hb : ∀ t, t < steps → allowB L steps n r (ph + (t : Int)) all = false) : shiftAt L steps n r ph all = none := by
 unfold shiftAt
 rw [List.find?_range_eq_none]
 exact fun j hj => by rw [hb j hj]; rfl
def LiI (L : List (List Int)) (steps n : Nat) (first all : Int) (w : World) (r : Nat) (sum : Int) (vo : Value) (W : World) : Prop :=
 Below w.heap.size w W ∧ ∃ ph out, sum = (ph - first) % (steps : Int) ∧ shiftsGo L steps n all (n - 1) 1 first [] = shiftsGo L steps n all (n - r) r ph out ∧ W.ownsRow w.heap.size 3 1 vo out.length (out.map vint) ∧ out.length + 1 = r
theorem mod_shift {first ph s st : Int} (h : 0 < st) : (first + (((ph - first) % st + s) % st)) % st = (ph + s) % st := by
 rw [Int.add_emod_emod, Int.add_comm, Int.add_assoc, Int.emod_add_emod]
 congr 1
 omega
theorem pf_r9_listed (v : Value) (L : List (List Int)) (steps n : Nat) (first all : Int) (w : World) (hv : GridL w v L) (hL : L.length ≤ 1000) (hn : 0 < n) (hn2 : n ≤ 12) (hs : 0 < steps) (hs2 : steps ≤ 96) (hf : 0 ≤ first ∧ first < steps) (hall : 0 ≤ all ∧ all < steps) :
  Calls Try.prog 45 #[v, .int .i64 (steps : Int), .int .i64 (n : Int), .int .i64 first, .int .i64 all] w fun e w' => ∃ v', e = .returned v' ∧ Below w.heap.size w w' ∧ Ints w' v' ((listedL L steps n first all).getD []) ∧ (∀ g, v'.ownBlock = some g → w.heap.size ≤ g) := by
 obtain ⟨A, c, rfl, hlm⟩ := hv.slice
 have hz : ((0 : Nat) : Int) = 0 := rfl
 have hal := fun (r : Nat) (sum : Int) (hr : r < n) (h : 0 ≤ sum ∧ sum < steps) (W : World) (hb : Below w.heap.size w W) => pf_r9_allowed _ L steps n r first sum all W (hv.le hb) hL hn hn2 hr hs hs2 hf h hall
 have ha0 : Calls Try.prog 80 #[.slice A L.length c, .int .i64 (steps : Int), .int .i64 (n : Int), .int .i64 0, .int .i64 first, .int .i64 0, .int .i64 all] w fun e w' => e = .returned (.bool (allowB L steps n 0 first all)) ∧ ∃ q, w' = w.drewN q := by
  have h := hal 0 0 hn ⟨by omega, by omega⟩ w (Below.refl _ _)
  rw [Int.add_zero] at h
  exact h
 obtain ⟨B, hB⟩ : ∃ B, allowB L steps n 0 first all = B := ⟨_, rfl⟩
 rw [hB] at ha0
 have ⟨hv', hal', ha0', hB'⟩ := hyd4 hv hal ha0 hB
 clear hB ha0 hal hv
 cases B with
 | false =>
  have hres : listedL L steps n first all = none := by unfold listedL; rw [hB'.out]; rfl
  have hres' := hyd1 hres
  clear hres
  go_enter Try.func45, Try.ntmps45
  go_wp2_with (first | (go_at_call 80; ((with_reducible refine (ha0'.out).mono ?_); rintro e w' ⟨rfl, q, rfl⟩)))
  go_ret
  exact ⟨_, rfl, below_drewN' (Below.refl _ _) q, by rw [hres'.out]; exact Arr.nil _ _, fun g hg => by cases hg⟩
 | true =>
  go_enter Try.func45, Try.ntmps45
  go_wp2_with (first | (go_at_call 80; ((with_reducible refine (ha0'.out).mono ?_); rintro e w' ⟨rfl, q, rfl⟩)))
  have hI0 : LiI L steps n first all w 1 0 (.slice none 0 0) (w.drewN q) := ⟨below_drewN' (Below.refl _ _) q, first, [], by rw [Int.sub_self]; simp, rfl, World.ownsRow_nil _ _ _ _, rfl⟩
  have hI0' := hyd1 hI0
  clear hI0
  generalize w.drewN q = w1 at hI0' ⊢
  go_loopw [13, 12, 11] (fun rx sx vo wr => ∃ (r : Nat) (sum : Int), r ≤ n ∧ 1 ≤ r ∧ rx = .int .i64 (r : Int) ∧ sx = .int .i64 sum ∧ Hid (LiI L steps n first all w r sum vo wr)) (fun rx _ _ _ => n - (intOf rx).toNat)
  case atStart => exact ⟨1, 0, by omega, by omega, rfl, rfl, hI0'⟩
  case round =>
   obtain ⟨r, sum, hr, hr1, rfl, rfl, hI⟩ := hrel
   obtain ⟨hbw, ph, out, hsum, hgo, hown, hlen⟩ := hI.out
   have hs0 := Int.emod_nonneg (ph - first) (show (steps : Int) ≠ 0 by omega)
   have hs1 := Int.emod_lt_of_pos (ph - first) (show (0 : Int) < steps by omega)
   rw [← hsum] at hs0 hs1
   obtain ⟨AO, cO, rfl⟩ := slice_formR hown
   have hl1 : out.length + 1 ≤ r := by omega
   have hl2 : r ≤ out.length + 1 := by omega
   clear hlen
   by_cases hlt : r < n
   ·have j1 : (r : Int) < (n : Int) := by omega
    have ⟨hI', hbw', hsum', hgo', hown'⟩ := hyd5 hI hbw hsum hgo hown
    clear hown hgo hsum hbw hI
    go_wp2
    rename World => wo
    go_loopw [14] (fun sx wr => ∃ s : Nat, s ≤ steps ∧ sx = .int .i64 (s : Int) ∧ Hid (Below wo.heap.size wo wr ∧ wr.ownsRow w.heap.size 3 1 (.slice AO out.length cO) out.length (out.map vint)) ∧ Hid (∀ t, t < s → allowB L steps n r (ph + (t : Int)) all = false)) (fun sx _ => steps - (intOf sx).toNat)
    case atStart => exact ⟨0, Nat.zero_le _, rfl, Lib.hid ⟨Below.refl _ _, hown'.out⟩, Lib.hid fun t h => absurd h (Nat.not_lt_zero t)⟩
    case round =>
     obtain ⟨s, hss, rfl, hJ, hno⟩ := hrel
     obtain ⟨hbv, hownv⟩ := hJ.out
     have hbE := bel_set hbw'.out hbv
     by_cases hls : s < steps
     ·have k1 : (s : Int) < (steps : Int) := by omega
      obtain ⟨x, hx⟩ : ∃ x, (sum + (s : Int)) % (steps : Int) = x := ⟨_, rfl⟩
      have hx0 := Int.emod_nonneg (sum + (s : Int)) (show (steps : Int) ≠ 0 by omega)
      have hx1 := Int.emod_lt_of_pos (sum + (s : Int)) (show (0 : Int) < steps by omega)
      rw [hx] at hx0 hx1
      have kal := hal'.out r x hlt ⟨hx0, hx1⟩ wr hbE
      have hmod : allowB L steps n r (first + x) all = allowB L steps n r (ph + (s : Int)) all := allowB_mod (by rw [← hx, hsum'.out]; exact mod_shift (by omega))
      rw [hmod] at kal
      obtain ⟨B, hB⟩ : ∃ B, allowB L steps n r (ph + (s : Int)) all = B := ⟨_, rfl⟩
      rw [hB] at kal
      have k2 : ¬ (steps : Int) = 0 := by omega
      have k3 : 0 ≤ sum + (s : Int) := by omega
      have ⟨hJ', hno', hbv', hownv', hbE', kal', hmod', hB'⟩ := hyd8 hJ hno hbv hownv hbE kal hmod hB
      clear hB hmod kal hbE hownv hbv hno hJ
      cases B with
      | false =>
       go_wp2_with (first | (go_at_call 80; ((with_reducible refine (kal'.out).mono ?_); rintro e w' ⟨rfl, hq⟩)))
       obtain ⟨q2, rfl⟩ := hq
       go_roundw
       case rel => exact ⟨s + 1, by omega, by go_num, Lib.hid ⟨below_drewN' hbv'.out q2, hownv'.out⟩, Lib.hid fun t ht => by
        by_cases e : t = s
        ·subst e; exact hB'.out
        ·exact hno'.out.out t (by omega)⟩
       case measure => simp [intOf]; omega
      | true =>
       have hsz := hbE'.out.size
       have hsome := shiftAt_some hls hB'.out hno'.out.out
       have hgo2 : shiftsGo L steps n all (n - 1) 1 first [] = shiftsGo L steps n all (n - (r + 1)) (r + 1) (ph + (s : Int)) (out ++ [(s : Int)]) := by
        rw [hgo'.out, show n - r = (n - (r + 1)) + 1 by omega]
        conv => lhs; unfold shiftsGo
        rw [hsome]
       have hx2 : x = (ph + (s : Int) - first) % (steps : Int) := by
        rw [← hx, hsum'.out, Int.emod_add_emod]; congr 1; omega
       have ⟨hsome', hgo2', hx2'⟩ := hyd3 hsome hgo2 hx2
       clear hx2 hgo2 hsome
       go_wp2_with (first | (go_at_call 80; ((with_reducible refine (kal'.out).mono ?_); rintro e w' ⟨rfl, hq⟩; obtain ⟨q2, rfl⟩ := hq)) | (at_builtin; go_must (refine wpList_appI rfl _ _ 36 rfl w.heap.size 3 elemInt _ out rfl ((own_drewN hownv'.out _).alloc _) _ [(s : Int)] rfl (one_newI _ _ _) (by simp; omega) (by simp; omega) ?_)))
       intro v3 w3 h1 h2 h3 _
       obtain ⟨A3, c3, rfl⟩ := slice_formR h1
       have hb3 : Below w.heap.size w w3 := (((below_drewN' hbE'.out q2).alloc (Nat.le_trans hsz (by simp)) _).trans h2)
       have hI3 : LiI L steps n first all w (r + 1) x (.slice A3 (out.length + 1) c3) w3 := ⟨hb3, ph + (s : Int), out ++ [(s : Int)], hx2'.out, hgo2'.out, by simpa using h1, by simp; omega⟩
       have ⟨h1', h2', h3', hb3', hI3'⟩ := hyd5 h1 h2 h3 hb3 hI3
       clear hI3 hb3 h3 h2 h1
       go_wp2
       go_roundw
       case rel => exact ⟨r + 1, x, by omega, by omega, by go_num, by rw [hx], hI3'⟩
       case measure => simp [intOf]; omega
     ·obtain rfl : s = steps := by omega
      have hnone := shiftAt_none hno.out
      have hres : listedL L s n first all = none := by
       unfold listedL
       rw [hB'.out, hgo'.out, show n - r = (n - (r + 1)) + 1 by omega]
       conv => lhs; unfold shiftsGo
       rw [hnone]
       rfl
      have ⟨hJ', hno', hbv', hownv', hbE', hnone', hres'⟩ := hyd7 hJ hno hbv hownv hbE hnone hres
      clear hres hnone hbE hownv hbv hno hJ
      go_wp2
      go_ret
      exact ⟨_, rfl, hbE'.out, by rw [hres'.out]; exact Arr.nil _ _, fun g hg => by cases hg⟩
   ·obtain rfl : r = n := by omega
    have hres : listedL L steps r first all = some (out ++ [(all - (ph - first)) % (steps : Int)]) := by
     unfold listedL
     rw [hB'.out, hgo, Nat.sub_self]
     rfl
    have hlast : (all - sum) % (steps : Int) = (all - (ph - first)) % (steps : Int) := by rw [hsum, Int.sub_emod_emod]
    obtain ⟨y, hy⟩ : ∃ y, (all - (ph - first)) % (steps : Int) = y := ⟨_, rfl⟩
    rw [hy] at hres hlast
    have kar : ∀ W : World, Calls Try.prog 75 #[.int .i64 (all - sum), .int .i64 (steps : Int)] W fun e w' => e = .returned (.int .i64 y) ∧ W = w' := fun W => by
     have := pf_r3_Around (all - sum) (steps : Int) W (by omega) (by omega) ⟨by omega, by omega⟩
     rwa [hlast] at this
    have hsz := hbw.size
    have ho2 : out.length ≤ 12 := by omega
    have ⟨hI', hbw', hsum', hgo', hown', hres', hlast', hy'⟩ := hyd8 hI hbw hsum hgo hown hres hlast hy
    have kar' := hyd1 kar
    clear kar hy hlast hres hown hgo hsum hbw hI
    go_wp2_with (first | (go_at_call 75; ((with_reducible refine (kar'.out _).mono ?_); rintro e w' ⟨rfl, rfl⟩)) | (at_builtin; go_must (refine wpList_appI rfl _ _ 36 rfl w.heap.size 3 elemInt _ out rfl (hown'.out.alloc _) _ [y] rfl (one_newI _ _ _) (by simp; omega) (by simp; omega) ?_)))
    intro v3 w3 h1 h2 h3 _
    have hb3 : Below w.heap.size w w3 := (hbw'.out.alloc (Nat.le_trans hsz (Nat.le_refl _)) _).trans h2
    have hi3 : Ints w3 v3 (out ++ [y]) := Arr.of_own (xs := out ++ [y]) (n := out.length + 1) (by simpa using h1)
    have ⟨h1', h2', h3', hb3', hi3'⟩ := hyd5 h1 h2 h3 hb3 hi3
    clear hi3 hb3 h3 h2 h1
    go_wp2
    go_ret
    exact ⟨_, rfl, hb3'.out, by rw [hres'.out]; exact hi3'.out, fun g hg => (h1'.out.lt g hg).1⟩
end Go.Proofs.Ytkblockodaiigaa
