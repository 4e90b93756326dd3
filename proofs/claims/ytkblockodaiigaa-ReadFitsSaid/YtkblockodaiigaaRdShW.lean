/- The program's table: free, shifts; slices.Compare. -/
import Derived.Test.YtkblockodaiigaaRdTabR
namespace Go.Proofs.Ytkblockodaiigaa
set_option maxRecDepth 100000
set_option maxHeartbeats 1000000
open Go.RowKit
set_option linter.unusedVariables false
set_option linter.unusedSimpArgs false
theorem tab_get {steps j : Nat} {L : List (List Int)} (h : j < (tabL steps L).length) (hj : j < L.length) : (tabL steps L)[j] = rowB steps L[j] := by simp [tabL]
theorem emod_small {x st : Nat} (h : x < st) : ((x : Int) % (st : Int)) = (x : Int) := by rw [← Int.natCast_emod, Nat.mod_eq_of_lt h]
theorem pf_rd_free (v : Value) (L : List (List Int)) (steps n r ph sum : Nat) (w : World) (hv : GridB w v (tabL steps L)) (hL : L.length ≤ 1000) (hn : 0 < n) (hn2 : n ≤ 12) (hr : r ≤ 12) (hs : 0 < steps) (hs2 : steps ≤ 96) (hp : ph < steps) (hsum : sum < steps) :
  Calls Try.prog 76 #[.agg #[.int .i64 (steps : Int), v], .int .i64 (r : Int), .int .i64 (n : Int), .int .i64 (ph : Int), .int .i64 (sum : Int)] w fun e w' => e = .returned (.bool (allowB L steps n r (ph : Int) (sum : Int))) ∧ Below w.heap.size w w' := by
 obtain ⟨A, c, rfl, hlm⟩ := hv.slice
 rw [tabL_length] at hv hlm ⊢
 unfold maxLen at hlm
 obtain ⟨W0, hW0, hb0, k0⟩ := newb w (.cells #[.int .i64 (steps : Int), .slice A L.length c] 94)
 obtain ⟨c0, c1⟩ := pc2 k0
 have hI0 : Below W0.heap.size W0 W0 := Below.refl _ _
 have hv0 := hv.le hb0
 have ⟨hv', hb0', k0', hI0', hv0'⟩ := hyd5 hv hb0 k0 hI0 hv0
 clear hv0 hI0 k0 hb0 hv
 go_enter Try.func76, Try.ntmps76
 go_wp2
 go_loopw [1, 3] (fun rx px wr => ∃ j q : Nat, j ≤ L.length + 12 ∧ q < steps ∧ rx = .int .i64 (j : Int) ∧ px = .int .i64 (q : Int) ∧ Hid (Below W0.heap.size W0 wr) ∧ Hid (allowB L steps n r (ph : Int) (sum : Int) = allowB L steps n j (q : Int) (sum : Int))) (fun rx _ _ => L.length + 13 - (intOf rx).toNat)
 case atStart => exact ⟨r, ph, by omega, hp, rfl, rfl, hI0', Lib.hid rfl⟩
 case round =>
  obtain ⟨j, q, hj, hq, rfl, rfl, hbw, heq⟩ := hrel
  have kw := blk hbw.out k0'.out
  clear c0 c1
  obtain ⟨c0, c1⟩ := pc2 kw
  have hbE := bel_set hb0'.out hbw.out
  have hstep := allowB_step (L := L) (steps := steps) (all := (sum : Int)) hn j (q : Int)
  rw [emod_small hq] at hstep
  by_cases hlt : j < L.length
  ·rw [if_pos hlt] at hstep
   have hgd : L.getD j [] = L[j] := by simp [hlt]
   rw [hgd] at hstep
   obtain ⟨b, off, c2, vr, he, hbl, d0, hrow⟩ := (hv0'.out.le hbw.out).at (j := j) (by rw [tabL_length]; exact hlt)
   rw [tabL_length] at he
   injection he with e1 e2 e3
   subst e1 e3
   clear e2
   rw [tab_get _ hlt] at hrow
   obtain ⟨b2, off2, c3, rfl, d1⟩ := hrow.cellB (j := q) (by rw [rowB_length]; exact hq)
   rw [rowB_get] at d1
   rw [rowB_length] at d0
   obtain ⟨B, hB⟩ : ∃ B, memI L[j] (q : Int) = B := ⟨_, rfl⟩
   rw [hB] at d1 hstep
   have j1 : (j : Int) < (L.length : Int) := by omega
   have j2 : (0 : Int) ≤ (j : Int) := by omega
   have j3 : (q : Int) < (steps : Int) := by omega
   have j4 : (0 : Int) ≤ (q : Int) := by omega
   obtain ⟨x, hx⟩ : ∃ x : Nat, ((q : Int) + (sum : Int)) % (steps : Int) = (x : Int) := ⟨(q + sum) % steps, by push_cast; rfl⟩
   have hx1 : x < steps := by have := Int.emod_lt_of_pos ((q : Int) + (sum : Int)) (show (0 : Int) < steps by omega); omega
   have hmod : allowB L steps n (j + n) ((q : Int) + (sum : Int)) (sum : Int) = allowB L steps n (j + n) (x : Int) (sum : Int) := allowB_mod (by rw [← hx, Int.emod_emod])
   have k2 : ¬ (steps : Int) = 0 := by omega
   have k3 : 0 ≤ (q : Int) + (sum : Int) := by omega
   have ⟨hbw', heq', kw', hbE', hrow', hB', hstep', hx'⟩ := hyd8 hbw heq kw hbE hrow hB hstep hx
   have ⟨hmod', hgd'⟩ := hyd2 hmod hgd
   clear hgd hmod hx hstep hB hrow hbE kw heq hbw
   cases B with
   | false =>
    go_wp2
    go_ret
    exact ⟨by rw [heq'.out.out, hstep'.out]; rfl, hbE'.out⟩
   | true =>
    go_wp2
    go_roundw
    case rel => exact ⟨j + n, x, by omega, hx1, by go_num, by rw [hx'.out], hbw'.out, Lib.hid (by rw [heq'.out.out, hstep'.out, hmod'.out]; rfl)⟩
    case measure => simp [intOf]; omega
  ·rw [if_neg hlt] at hstep
   have j1 : ¬ (j : Int) < (L.length : Int) := by omega
   have ⟨hbw', heq', kw', hbE', hstep'⟩ := hyd5 hbw heq kw hbE hstep
   clear hstep hbE kw heq hbw
   go_wp2
   go_ret
   exact ⟨by rw [heq'.out.out, hstep'.out]; rfl, hbE'.out⟩
theorem pf_isNaN (x : Int) (w : World) : Calls Try.prog 104 #[.int .i64 x] w fun e w' => e = .returned (.bool false) ∧ w = w' := by
 go_enter Try.func104, Try.ntmps104
 go_wp2
 go_ret
 exact ⟨by simp, rfl⟩
theorem pf_cmpI (x y : Int) (w : World) : Calls Try.prog 77 #[.int .i64 x, .int .i64 y] w fun e w' => e = .returned (.int .i64 (if x < y then -1 else if y < x then 1 else 0)) ∧ w = w' := by
 by_cases h1 : x < y
 ·go_enter Try.func77, Try.ntmps77
  go_wp2_with (first | (go_at_call 104; ((with_reducible refine (pf_isNaN _ _).mono ?_); rintro e w' ⟨rfl, rfl⟩)) | (go_at_call 104; ((with_reducible refine (pf_isNaN _ _).mono ?_); rintro e w' ⟨rfl, rfl⟩)))
  go_ret
  exact ⟨rfl, rfl⟩
 ·by_cases h2 : y < x
  ·go_enter Try.func77, Try.ntmps77
   go_wp2_with (first | (go_at_call 104; ((with_reducible refine (pf_isNaN _ _).mono ?_); rintro e w' ⟨rfl, rfl⟩)) | (go_at_call 104; ((with_reducible refine (pf_isNaN _ _).mono ?_); rintro e w' ⟨rfl, rfl⟩)))
   go_ret
   exact ⟨rfl, rfl⟩
  ·go_enter Try.func77, Try.ntmps77
   go_wp2_with (first | (go_at_call 104; ((with_reducible refine (pf_isNaN _ _).mono ?_); rintro e w' ⟨rfl, rfl⟩)) | (go_at_call 104; ((with_reducible refine (pf_isNaN _ _).mono ?_); rintro e w' ⟨rfl, rfl⟩)))
   go_ret
   exact ⟨rfl, rfl⟩
theorem pf_sCompare (va vb : Value) (xs ys : List Int) (w : World) (ha : Ints w va xs) (hb : Ints w vb ys) (hl : xs.length = ys.length) : Calls Try.prog 42 #[va, vb] w fun e w' => ∃ c, e = .returned (.int .i64 c) ∧ decide (c < 0) = lessL xs ys ∧ w = w' := by
 obtain ⟨A, c, rfl, hlc, hcm, -, hr⟩ := id ha
 obtain ⟨B, d, rfl, hld, hdm, -, hr2⟩ := id hb
 unfold maxLen at hcm hdm
 clear hr hr2
 have hl2 : xs.length ≤ ys.length := by omega
 have hl3 : ys.length ≤ xs.length := by omega
 have ⟨ha', hb', hl'⟩ := hyd3 ha hb hl
 clear hl hb ha
 go_enter Try.func42, Try.ntmps42
 go_wp2
 go_loopw [11] (fun ix wr => ∃ j : Nat, j ≤ xs.length ∧ ix = .int .i64 j ∧ w = wr ∧ Hid (lessL xs ys = lessL (xs.drop j) (ys.drop j))) (fun ix _ => xs.length - (intOf ix).toNat)
 case atStart => exact ⟨0, Nat.zero_le _, rfl, rfl, Lib.hid rfl⟩
 case round =>
  obtain ⟨j, hj, rfl, rfl, hI⟩ := hrel
  by_cases hlt : j < xs.length
  ·obtain ⟨b, off, c2, heq, hb1, -, -, hcell⟩ := Ints.cells ha'.out (by omega)
   injection heq with e1 e2 e3
   subst e1 e3
   clear e2
   obtain ⟨b2, off2, c2, heq, hb2, -, -, hcell2⟩ := Ints.cells hb'.out (by omega)
   injection heq with e1 e2 e3
   subst e1 e3
   clear e2
   have hc := hcell j hlt
   have hd := hcell2 j (by omega)
   have hst := lessL_step (xs := xs) (ys := ys) hlt (show j < ys.length by omega)
   obtain ⟨x, hx⟩ : ∃ y, xs[j] = y := ⟨_, rfl⟩
   obtain ⟨y, hy⟩ : ∃ y, ys[j]'(by omega) = y := ⟨_, rfl⟩
   rw [hx] at hc hst
   rw [hy] at hd hst
   have j1 : (j : Int) < (xs.length : Int) := by omega
   have j2 : (0 : Int) ≤ (j : Int) := by omega
   have j3 : (j : Int) < (ys.length : Int) := by omega
   have j4 : ¬ (ys.length : Int) ≤ (j : Int) := by omega
   have hcc := fun W => pf_cmpI x y W
   obtain ⟨z, hz⟩ : ∃ z : Int, (if x < y then (-1 : Int) else if y < x then 1 else 0) = z := ⟨_, rfl⟩
   rw [hz] at hcc
   by_cases hxy : x = y
   ·obtain rfl : z = 0 := by rw [← hz, if_neg (by omega), if_neg (by omega)]
    rw [if_pos hxy] at hst
    have ⟨hcell', hcell2', hx', hy', hst', hcc', hz', hxy'⟩ := hyd8 hcell hcell2 hx hy hst hcc hz hxy
    have hI' := hyd1 hI
    clear hI hxy hz hcc hst hy hx hcell2 hcell
    go_wp2_with (first | (go_at_call 77; ((with_reducible refine (hcc'.out _).mono ?_); rintro e w' ⟨rfl, rfl⟩)))
    go_roundw
    case rel => exact ⟨j + 1, by omega, by go_num, trivial, Lib.hid (by rw [hI'.out.out, hst'.out])⟩
    case measure => simp [intOf]; omega
   ·have hz0 : ¬ z = 0 := by rw [← hz]; split; omega; split <;> omega
    have hzl : decide (z < 0) = lessL xs ys := by
     rw [hI.out, hst, if_neg hxy, ← hz]
     by_cases q : x < y
     ·rw [if_pos q]; simp [q]
     ·rw [if_neg q, if_pos (by omega)]; simp [q]
    have ⟨hcell', hcell2', hx', hy', hst', hcc', hz', hxy'⟩ := hyd8 hcell hcell2 hx hy hst hcc hz hxy
    have ⟨hI', hzl'⟩ := hyd2 hI hzl
    clear hzl hI hxy hz hcc hst hy hx hcell2 hcell
    go_wp2_with (first | (go_at_call 77; ((with_reducible refine (hcc'.out _).mono ?_); rintro e w' ⟨rfl, rfl⟩)))
    go_ret
    exact ⟨z, rfl, hzl'.out, rfl⟩
  ·have hfin : decide ((0 : Int) < 0) = lessL xs ys := by
    rw [hI.out, List.drop_of_length_le (show xs.length ≤ j by omega), lessL_nil_left]; rfl
   have j5 : ¬ (xs.length : Int) < (ys.length : Int) := by omega
   have ⟨hI', hfin'⟩ := hyd2 hI hfin
   clear hfin hI
   go_wp2
   go_ret
   exact ⟨0, rfl, hfin'.out, rfl⟩
end Go.Proofs.Ytkblockodaiigaa
