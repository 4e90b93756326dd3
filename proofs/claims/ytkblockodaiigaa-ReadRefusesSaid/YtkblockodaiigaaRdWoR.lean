/- The reference's indices. The reference's without. -/
import Derived.Test.YtkblockodaiigaaRdFitsW
namespace Go.Proofs.Ytkblockodaiigaa
set_option maxRecDepth 100000
set_option maxHeartbeats 1000000
open Go.RowKit
set_option linter.unusedVariables false
set_option linter.unusedSimpArgs false
def indL (n : Nat) : List Int := (List.range n).map fun (k : Nat) => (k : Int)
theorem indL_succ (n : Nat) : indL (n + 1) = indL n ++ [(n : Int)] := by unfold indL; rw [List.range_succ, List.map_append]; rfl
theorem indL_length (n : Nat) : (indL n).length = n := by unfold indL; simp
theorem pf_r9_indices (n : Nat) (w : World) (hn : n ≤ 1000) : Calls Try.prog 53 #[.int .i64 (n : Int)] w fun e w' => ∃ v', e = .returned v' ∧ Below w.heap.size w w' ∧ w'.ownsRow w.heap.size 3 1 v' (indL n).length ((indL n).map vint) := by
 go_enter Try.func53, Try.ntmps53
 go_wp2
 go_loopw [4, 3] (fun ix vx wr => ∃ j : Nat, j ≤ n ∧ ix = .int .i64 j ∧ Hid (Below w.heap.size w wr ∧ wr.ownsRow w.heap.size 3 1 vx (indL j).length ((indL j).map vint))) (fun ix _ _ => n - (intOf ix).toNat)
 case atStart => exact ⟨0, Nat.zero_le _, rfl, Lib.hid ⟨Below.refl _ _, World.ownsRow_nil _ _ _ _⟩⟩
 case round =>
  obtain ⟨j, hj, rfl, hI⟩ := hrel
  obtain ⟨hb, ho⟩ := hI.out
  have hsz := hb.size
  by_cases hlt : j < n
  ·have j1 : (j : Int) < (n : Int) := by omega
   have hjl : (indL j).length + 1 ≤ 1001 := by rw [indL_length]; omega
   have ⟨hb', ho', hI'⟩ := hyd3 hb ho hI
   clear hI ho hb
   go_wp2_with (first | (at_builtin; go_must (refine wpList_appI rfl _ _ 36 rfl w.heap.size 3 elemInt _ (indL j) rfl (ho'.out.alloc _) _ [(j : Int)] rfl (one_newI _ _ _) (by simp; omega) (by simp; omega) ?_)))
   intro v3 w3 h1 h2 h3 _
   have hn9 : Below w.heap.size w w3 ∧ w3.ownsRow w.heap.size 3 1 v3 (indL (j + 1)).length ((indL (j + 1)).map vint) := ⟨(hb'.out.alloc hsz _).trans h2, by rw [indL_succ]; simpa using h1⟩
   have ⟨hn9', h1', h2', h3'⟩ := hyd4 hn9 h1 h2 h3
   clear h3 h2 h1 hn9
   go_wp2
   go_roundw
   case rel => exact ⟨j + 1, by omega, by go_num, hn9'⟩
   case measure => simp [intOf]; omega
  ·obtain rfl : j = n := by omega
   have ⟨hb', ho', hI'⟩ := hyd3 hb ho hI
   clear hI ho hb
   go_wp2
   go_ret
   exact ⟨_, rfl, hb'.out, ho'.out⟩
end Go.Proofs.Ytkblockodaiigaa
namespace Go.Proofs.Ytkblockodaiigaa
set_option maxRecDepth 100000
set_option maxHeartbeats 1000000
open Go.RowKit
set_option linter.unusedVariables false
set_option linter.unusedSimpArgs false
def woL (xs : List Int) (s : Int) (n : Nat) : List Int := ((List.range n).filter fun (k : Nat) => decide ¬ (k : Int) = s).map fun k => xs.getD k 0
theorem woL_yes {xs : List Int} {s : Int} {n : Nat} (h : ¬ (n : Int) = s) : woL xs s (n + 1) = woL xs s n ++ [xs.getD n 0] := by unfold woL; rw [List.range_succ, List.filter_append, List.map_append]; simp [h]
theorem woL_no {xs : List Int} {s : Int} {n : Nat} (h : (n : Int) = s) : woL xs s (n + 1) = woL xs s n := by unfold woL; rw [List.range_succ, List.filter_append, List.map_append]; simp [h]
theorem woL_length (xs : List Int) (s : Int) (n : Nat) : (woL xs s n).length ≤ n := by unfold woL; rw [List.length_map]; have h := List.length_filter_le (fun (k : Nat) => decide ¬ (k : Int) = s) (List.range n); rwa [List.length_range] at h
theorem pf_r9_without (v : Value) (xs : List Int) (s : Int) (w : World) (hv : Ints w v xs) (hn : xs.length ≤ 1000) : Calls Try.prog 55 #[v, .int .i64 s] w fun e w' => ∃ v', e = .returned v' ∧ Below w.heap.size w w' ∧ w'.ownsRow w.heap.size 3 1 v' (woL xs s xs.length).length ((woL xs s xs.length).map vint) := by
 obtain ⟨A, c, rfl, hlc, hcm, -, hr⟩ := id hv
 unfold maxLen at hcm
 clear hr
 have hv' := hyd1 hv
 clear hv
 go_enter Try.func55, Try.ntmps55
 go_wp2
 go_loopw [6, 5] (fun ix vx wr => ∃ j : Nat, j ≤ xs.length ∧ ix = .int .i64 j ∧ Hid (Below w.heap.size w wr ∧ wr.ownsRow w.heap.size 3 1 vx (woL xs s j).length ((woL xs s j).map vint))) (fun ix _ _ => xs.length - (intOf ix).toNat)
 case atStart => exact ⟨0, Nat.zero_le _, rfl, Lib.hid ⟨Below.refl _ _, World.ownsRow_nil _ _ _ _⟩⟩
 case round =>
  obtain ⟨j, hj, rfl, hI⟩ := hrel
  obtain ⟨hb, ho⟩ := hI.out
  have hsz := hb.size
  by_cases hlt : j < xs.length
  ·obtain ⟨b, off, c2, heq, hb1, -, -, hcell⟩ := Ints.cells (hv'.out.below hb) (by omega)
   injection heq with e1 e2 e3
   subst e1 e3
   clear e2
   have hc := hcell j hlt
   obtain ⟨x, hx⟩ : ∃ y, xs[j] = y := ⟨_, rfl⟩
   rw [hx] at hc
   have hgx : xs.getD j 0 = x := by rw [← hx]; simp [hlt]
   have j1 : (j : Int) < (xs.length : Int) := by omega
   have j2 : (0 : Int) ≤ (j : Int) := by omega
   have hjl : (woL xs s j).length ≤ 1000 := by have := woL_length xs s j; omega
   by_cases hs : (j : Int) = s
   ·have hn9 := hI.out
    rw [← woL_no hs] at hn9
    subst hs
    have ⟨hb', ho', hI', hcell', hx', hgx', hn9'⟩ := hyd7 hb ho hI hcell hx hgx hn9
    clear hn9 hgx hx hcell hI ho hb
    go_wp2
    go_roundw
    case rel => exact ⟨j + 1, by omega, by go_num, hn9'⟩
    case measure => simp [intOf]; omega
   ·have ⟨hb', ho', hI', hcell', hx', hgx'⟩ := hyd6 hb ho hI hcell hx hgx
    clear hgx hx hcell hI ho hb
    go_wp2_with (first | (at_builtin; go_must (refine wpList_appI rfl _ _ 36 rfl w.heap.size 3 elemInt _ (woL xs s j) rfl (ho'.out.alloc _) _ [x] rfl (one_newI _ _ _) (by simp; omega) (by simp; omega) ?_)))
    intro v3 w3 h1 h2 h3 _
    have hn9 : Below w.heap.size w w3 ∧ w3.ownsRow w.heap.size 3 1 v3 (woL xs s (j + 1)).length ((woL xs s (j + 1)).map vint) := ⟨(hb'.out.alloc hsz _).trans h2, by rw [woL_yes hs, hgx'.out]; simpa using h1⟩
    have ⟨hn9', h1', h2', h3'⟩ := hyd4 hn9 h1 h2 h3
    clear h3 h2 h1 hn9
    go_wp2
    go_roundw
    case rel => exact ⟨j + 1, by omega, by go_num, hn9'⟩
    case measure => simp [intOf]; omega
  ·obtain rfl : j = xs.length := by omega
   have ⟨hb', ho', hI'⟩ := hyd3 hb ho hI
   clear hI ho hb
   go_wp2
   go_ret
   exact ⟨_, rfl, hb'.out, ho'.out⟩
end Go.Proofs.Ytkblockodaiigaa
