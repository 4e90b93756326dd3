/- The reference's Last, in, less. -/
import Derived.Test.YtkblockodaiigaaRdStartR
namespace Go.Proofs.Ytkblockodaiigaa
set_option maxRecDepth 100000
set_option maxHeartbeats 1000000
open Go.RowKit
set_option linter.unusedVariables false
set_option linter.unusedSimpArgs false
theorem pf_r9_Last (v : Value) (p : Pic) (w : World) (hp : IsPic w v p) : Calls Try.prog 39 #[v] w fun e w' => e = .returned (.int .i64 (lastC p.rds)) ∧ Below w.heap.size w w' := by
 obtain ⟨vh, vr, rfl, hh, hrd⟩ := hp
 obtain ⟨HA, hhc, rfl, -⟩ := hh.slice
 obtain ⟨RA, rc, rfl, hrl⟩ := hrd.slice
 unfold maxLen at hrl
 obtain ⟨W0, hW0, hb0, k0⟩ := newb w (.cells #[.slice HA p.hs.length hhc, .int .i64 p.tl, .int .i64 p.th, .int .i64 p.al, .int .i64 p.ah, .slice RA p.rds.length rc] 25)
 have ⟨hh', hrd', hb0', k0'⟩ := hyd4 hh hrd hb0 k0
 clear k0 hb0 hrd hh
 go_enter Try.func39, Try.ntmps39
 go_wp2
 clear hW0
 go_loopw [4, 3] (fun ix mx wr => ∃ j : Nat, j ≤ p.rds.length ∧ ix = .int .i64 j ∧ mx = .int .i64 ((p.rds.take j).foldl (fun m r => max m r.cut) 0) ∧ Hid (Below W0.heap.size W0 wr)) (fun ix _ _ => p.rds.length - (intOf ix).toNat)
 case atStart => exact ⟨0, Nat.zero_le _, rfl, rfl, Lib.hid (Below.refl _ _)⟩
 case round =>
  obtain ⟨j, hj, rfl, rfl, hI⟩ := hrel
  obtain ⟨c0, c1, c2, c3, c4, c5⟩ := pc6 (blk hI.out k0'.out)
  have hbE := bel_set hb0'.out hI.out
  by_cases hlt : j < p.rds.length
  ·have hfold := foldl_take (fun (m : Int) (r : Rd) => max m r.cut) 0 p.rds j hlt
   obtain ⟨bq, off, rc2, heq, hbl, g0, g1, g2, g3⟩ := RdsL.cells (hrd'.out.le hbE) hlt
   injection heq with e1 e2 e3
   subst e1 e3
   clear e2 g1 g2 g3
   obtain ⟨m, hm⟩ : ∃ m, (p.rds.take j).foldl (fun (m : Int) (r : Rd) => max m r.cut) 0 = m := ⟨_, rfl⟩
   obtain ⟨x, hx⟩ : ∃ x, p.rds[j].cut = x := ⟨_, rfl⟩
   rw [hx] at g0
   rw [hm, hx, ← ifmax] at hfold
   have j1 : (j : Int) < (p.rds.length : Int) := by omega
   have j2 : (0 : Int) ≤ (j : Int) := by omega
   have ⟨hfold', hbE', hx'⟩ := hyd3 hfold hbE hx
   clear hx hbE hfold
   go_wp2
   go_roundw
   case rel => exact ⟨j + 1, by omega, by go_num, by rw [hfold'.out], hI⟩
   case measure => simp [intOf]; omega
  ·obtain rfl : j = p.rds.length := by omega
   rw [List.take_length]
   have hbE' := hyd1 hbE
   clear hbE
   go_wp2
   go_ret
   exact ⟨rfl, hbE'.out⟩
theorem pf_r9_in (v : Value) (l : List Int) (x : Int) (w : World) (hv : Ints w v l) : Calls Try.prog 105 #[v, .int .i64 x] w fun e w' => e = .returned (.bool (memI l x)) ∧ w = w' := by
 obtain ⟨A, c, rfl, hlc, hcm, -, hr⟩ := id hv
 unfold maxLen at hcm
 clear hr
 have hv' := hyd1 hv
 clear hv
 go_enter Try.func105, Try.ntmps105
 go_wp2
 go_loopw [5] (fun ix wr => ∃ j : Nat, j ≤ l.length ∧ ix = .int .i64 j ∧ w = wr ∧ Hid (∀ i (hi : i < l.length), i < j → l[i] ≠ x)) (fun ix _ => l.length - (intOf ix).toNat)
 case atStart => exact ⟨0, Nat.zero_le _, rfl, rfl, Lib.hid fun i _ h => absurd h (Nat.not_lt_zero i)⟩
 case round =>
  obtain ⟨j, hj, rfl, rfl, hI⟩ := hrel
  by_cases hlt : j < l.length
  ·obtain ⟨b, off, c2, heq, hb, -, -, hcell⟩ := Ints.cells hv'.out (by omega)
   injection heq with e1 e2 e3
   subst e1 e3
   clear e2
   have hc := hcell j hlt
   obtain ⟨y, hy⟩ : ∃ y, l[j] = y := ⟨_, rfl⟩
   rw [hy] at hc
   have j1 : (j : Int) < (l.length : Int) := by omega
   have j2 : (0 : Int) ≤ (j : Int) := by omega
   by_cases hyx : y = x
   ·have hmem : memI l x = true := by unfold memI; rw [List.any_eq_true]; exact ⟨y, by rw [← hy]; exact List.getElem_mem hlt, by simpa using hyx⟩
    have ⟨hcell', hy', hmem'⟩ := hyd3 hcell hy hmem
    clear hmem hy hcell
    go_wp2
    go_ret
    exact ⟨by rw [hmem'.out]; rfl, rfl⟩
   ·have ⟨hcell', hy'⟩ := hyd2 hcell hy
    clear hy hcell
    go_wp2
    go_roundw
    case rel => exact ⟨j + 1, by omega, by go_num, trivial, Lib.hid fun i hi hij => by
     by_cases e : i = j
     ·subst e; rw [hy'.out]; exact hyx
     ·exact hI.out i hi (by omega)⟩
    case measure => simp [intOf]; omega
  ·have hmem : memI l x = false := by
    unfold memI
    rw [List.any_eq_false]
    intro y hy
    obtain ⟨i, hi, rfl⟩ := List.getElem_of_mem hy
    simpa using hI.out i hi (by omega)
   have hmem' := hyd1 hmem
   clear hmem
   go_wp2
   go_ret
   exact ⟨by rw [hmem'.out]; rfl, rfl⟩
theorem lessL_drop {xs ys : List Int} : ∀ (i : Nat), (∀ j (h1 : j < xs.length) (h2 : j < ys.length), j < i → xs[j] = ys[j]) → i ≤ xs.length → xs.length = ys.length → lessL xs ys = lessL (xs.drop i) (ys.drop i)
 | 0, _, _, _ => rfl
 | i + 1, h, hi, hl => by
  rw [lessL_drop i (fun j h1 h2 hj => h j h1 h2 (by omega)) (by omega) hl, List.drop_eq_getElem_cons (show i < xs.length by omega), List.drop_eq_getElem_cons (show i < ys.length by omega)]
  conv => lhs; unfold lessL
  rw [if_pos (h i (by omega) (by omega) (by omega))]
theorem pf_r9_less (va vb : Value) (xs ys : List Int) (w : World) (ha : Ints w va xs) (hb : Ints w vb ys) (hl : xs.length = ys.length) : Calls Try.prog 46 #[va, vb] w fun e w' => e = .returned (.bool (lessL xs ys)) ∧ ∃ n, w' = w.drewN n := by
 obtain ⟨A, c, rfl, hlc, hcm, -, hr⟩ := id ha
 obtain ⟨B, d, rfl, hld, hdm, -, hr2⟩ := id hb
 unfold maxLen at hcm hdm
 clear hr hr2
 have hl2 : xs.length ≤ ys.length := by omega
 have hl3 : ys.length ≤ xs.length := by omega
 have ⟨ha', hb', hl'⟩ := hyd3 ha hb hl
 clear hl hb ha
 go_enter Try.func46, Try.ntmps46
 go_wp2
 go_loopw [5] (fun ix wr => ∃ j : Nat, j ≤ xs.length ∧ ix = .int .i64 j ∧ Hid (∃ n, wr = w.drewN n) ∧ Hid (∀ i (h1 : i < xs.length) (h2 : i < ys.length), i < j → xs[i] = ys[i])) (fun ix _ => xs.length - (intOf ix).toNat)
 case atStart => exact ⟨0, Nat.zero_le _, rfl, Lib.hid ⟨0, rfl⟩, Lib.hid fun i _ _ h => absurd h (Nat.not_lt_zero i)⟩
 case round =>
  obtain ⟨j, hj, rfl, hN, hI⟩ := hrel
  obtain ⟨n, hn⟩ := hN.out
  by_cases hlt : j < xs.length
  ·obtain ⟨b, off, c2, heq, hb1, -, -, hcell⟩ := Ints.cells ha'.out (by omega)
   injection heq with e1 e2 e3
   subst e1 e3
   clear e2
   obtain ⟨b2, off2, c2, heq, hb2, -, -, hcell2⟩ := Ints.cells hb'.out (by omega)
   injection heq with e1 e2 e3
   subst e1 e3
   clear e2
   have hc := hcell j hlt
   have hd := hcell2 j (by omega)
   have hq : ∀ p, wr.cell? p = w.cell? p := fun p => by rw [hn]; simp
   rw [← hq] at hc hd
   clear hq
   have hdrop := lessL_drop j hI.out hj hl'.out
   rw [List.drop_eq_getElem_cons hlt, List.drop_eq_getElem_cons (show j < ys.length by omega)] at hdrop
   conv at hdrop => rhs; unfold lessL
   obtain ⟨x, hx⟩ : ∃ y, xs[j] = y := ⟨_, rfl⟩
   obtain ⟨y, hy⟩ : ∃ y, ys[j]'(by omega) = y := ⟨_, rfl⟩
   rw [hx] at hc hdrop
   rw [hy] at hd hdrop
   have j1 : (j : Int) < (xs.length : Int) := by omega
   have j2 : (0 : Int) ≤ (j : Int) := by omega
   have j3 : (j : Int) < (ys.length : Int) := by omega
   by_cases hxy : x = y
   ·subst hxy
    have ⟨hcell', hcell2', hx', hy', hn', hdrop'⟩ := hyd6 hcell hcell2 hx hy hn hdrop
    clear hdrop hn hy hx hcell2 hcell
    go_wp2
    go_quiet (fail)
    go_wp2
    go_roundw
    case rel => exact ⟨j + 1, by omega, by go_num, Lib.hid ⟨n + nq, by rw [hn'.out]; exact World.drewN_drewN _ _ _⟩, Lib.hid fun i h1 h2 hij => by
     by_cases e : i = j
     ·subst e; rw [hx'.out, hy'.out]
     ·exact hI.out i h1 h2 (by omega)⟩
    case measure => simp [intOf]; omega
   ·rw [if_neg hxy] at hdrop
    have ⟨hcell', hcell2', hx', hy', hn', hdrop'⟩ := hyd6 hcell hcell2 hx hy hn hdrop
    clear hdrop hn hy hx hcell2 hcell
    go_wp2
    go_quiet (fail)
    have hc2 : (wr.drewN nq).cell? ⟨b, off + j, none⟩ = some (.int .i64 x) := by simpa using hc
    have hd2 : (wr.drewN nq).cell? ⟨b2, off2 + j, none⟩ = some (.int .i64 y) := by simpa using hd
    obtain ⟨w4, hw4⟩ : ∃ W, wr.drewN nq = W := ⟨_, rfl⟩
    rw [hw4] at hc2 hd2
    have hn4 : w4 = w.drewN (n + nq) := by rw [← hw4, hn'.out]; exact World.drewN_drewN _ _ _
    clear hc hd
    have hn4' := hyd1 hn4
    clear hn4
    rw [hw4]
    clear hw4
    go_wp2
    go_quiet (fail)
    go_wp2
    go_ret
    exact ⟨by rw [hdrop'.out]; rfl, ⟨_, by rw [hn4'.out]; exact World.drewN_drewN _ _ _⟩⟩
  ·have hfin : lessL xs ys = false := by
    rw [lessL_drop j hI.out hj hl'.out, List.drop_of_length_le (show xs.length ≤ j by omega)]
    rfl
   have ⟨hfin', hn'⟩ := hyd2 hfin hn
   clear hn hfin
   go_wp2
   go_ret
   exact ⟨by rw [hfin'.out]; rfl, n, hn'.out⟩
end Go.Proofs.Ytkblockodaiigaa
