/- The program's table of the phases that fit, plain and in memory. The program's table: free, shifts; slices.Compare. The program's table: shifts. rosette.Turned; a list of lists of Booleans under way; rows of Booleans that are marked. -/
import Derived.Test.YtkblockodaiigaaRdFitsW
import Derived.Deep.LoopGhost
import Derived.Deep.RegionHeld3
namespace Go.Proofs.Ytkblockodaiigaa
set_option maxRecDepth 100000
set_option maxHeartbeats 1000000
open Go.RowKit
set_option linter.unusedVariables false
set_option linter.unusedSimpArgs false
def rowB (steps : Nat) (l : List Int) : List Bool := (List.range steps).map fun (k : Nat) => memI l (k : Int)
def tabL (steps : Nat) (L : List (List Int)) : List (List Bool) := L.map (rowB steps)
theorem rowB_length (steps : Nat) (l : List Int) : (rowB steps l).length = steps := by unfold rowB; simp
theorem tabL_length (steps : Nat) (L : List (List Int)) : (tabL steps L).length = L.length := by unfold tabL; simp
theorem rowB_get {steps : Nat} {l : List Int} {k : Nat} (h : k < (rowB steps l).length) : (rowB steps l)[k] = memI l (k : Int) := by simp [rowB]
theorem rowB_get? {steps : Nat} {l : List Int} {k : Nat} (h : k < steps) : (rowB steps l)[k]? = some (memI l (k : Int)) := by rw [List.getElem?_eq_getElem (by rw [rowB_length]; exact h), rowB_get]
theorem rowB_nil (steps : Nat) : rowB steps [] = List.replicate steps false := by
 apply List.ext_getElem
 ·rw [rowB_length]; simp
 ·intro i h1 h2; rw [rowB_get]; simp [memI]
theorem memI_snoc (l : List Int) (x k : Int) : memI (l ++ [x]) k = (memI l k || decide (x = k)) := by unfold memI; simp
theorem rowB_set {steps : Nat} {l : List Int} {x : Nat} (h : x < steps) : (rowB steps l).set x true = rowB steps (l ++ [(x : Int)]) := by
 apply List.ext_getElem
 ·rw [List.length_set, rowB_length, rowB_length]
 ·intro i h1 h2
  rw [rowB_get, List.getElem_set, memI_snoc]
  by_cases e : x = i
  ·subst e; simp
  ·rw [if_neg e, rowB_get]; simp; omega
theorem tab_take {α : Type} {l : List α} {j : Nat} (h : j < l.length) : l.take (j + 1) = l.take j ++ [l[j]] := by rw [List.take_succ_eq_append_getElem h]
theorem tabL_take {steps : Nat} {L : List (List Int)} {c : Nat} (h : c < L.length) : tabL steps (L.take (c + 1)) = tabL steps (L.take c) ++ [rowB steps L[c]] := by
 unfold tabL
 rw [tab_take h, List.map_append]
 rfl
abbrev vbool : Bool → Value := Value.bool
def GridB (w : World) (v : Value) (L : List (List Bool)) : Prop :=
 ∃ A c, v = .slice A L.length c ∧ L.length ≤ c ∧ c ≤ maxLen ∧ (A = none → c = 0) ∧
  (0 < L.length → ∃ b off, A = some ⟨b, off, none⟩ ∧ b < w.heap.size ∧ ∀ j (h : j < L.length), ∃ vr, w.cell? ⟨b, off + j, none⟩ = some vr ∧ Arr vbool w vr L[j])
theorem GridB.le {w W : World} {v : Value} {L : List (List Bool)} (h : GridB w v L) (hb : Below w.heap.size w W) : GridB W v L := by
 obtain ⟨A, c, hv, h1, h2, hN, h3⟩ := h
 refine ⟨A, c, hv, h1, h2, hN, fun h0 => ?_⟩
 obtain ⟨b, off, ha, hlt, hc⟩ := h3 h0
 refine ⟨b, off, ha, Nat.lt_of_lt_of_le hlt hb.size, fun j hj => ?_⟩
 obtain ⟨vr, c0, i0⟩ := hc j hj
 exact ⟨vr, (Below.cell hb (p := ⟨b, _, none⟩) hlt).trans c0, i0.below hb⟩
theorem GridB.at {w : World} {v : Value} {L : List (List Bool)} (h : GridB w v L) {j : Nat} (hj : j < L.length) : ∃ b off c vr, v = .slice (some ⟨b, off, none⟩) L.length c ∧ b < w.heap.size ∧ w.cell? ⟨b, off + j, none⟩ = some vr ∧ Arr vbool w vr L[j] := by
 obtain ⟨A, c, rfl, h1, h2, hN, h3⟩ := h
 obtain ⟨b, off, rfl, hlt, hc⟩ := h3 (by omega)
 obtain ⟨vr, c0, i0⟩ := hc j hj
 exact ⟨b, off, c, vr, rfl, hlt, c0, i0⟩
theorem GridB.slice {w : World} {v : Value} {L : List (List Bool)} (h : GridB w v L) : ∃ A c, v = .slice A L.length c ∧ L.length ≤ maxLen := by
 obtain ⟨A, c, rfl, h1, h2, -⟩ := h
 exact ⟨A, c, rfl, by omega⟩
theorem Arr.cellB {w : World} {v : Value} {L : List Bool} (h : Arr vbool w v L) {j : Nat} (hj : j < L.length) : ∃ b off c, v = .slice (some ⟨b, off, none⟩) L.length c ∧ w.cell? ⟨b, off + j, none⟩ = some (.bool L[j]) := by
 obtain ⟨A, c, rfl, h1, h2, hN, h3⟩ := h
 obtain ⟨b, off, rfl, hlt, hc⟩ := h3 (by omega)
 exact ⟨b, off, c, rfl, hc j hj⟩
theorem last_shift {first sum ph st : Int} (h : 0 < st) : (first + sum - ph % st + st) % st = (sum - (ph - first)) % st := by
 rw [Int.add_emod_right, show first + sum - ph % st = (first + sum) - ph % st from rfl, Int.sub_emod_emod]
 congr 1
 omega
theorem lessL_nil_left (m : List Int) : lessL [] m = false := by unfold lessL; rfl
theorem lessL_step {xs ys : List Int} {j : Nat} (hx : j < xs.length) (hy : j < ys.length) : lessL (xs.drop j) (ys.drop j) = if xs[j] = ys[j] then lessL (xs.drop (j + 1)) (ys.drop (j + 1)) else decide (xs[j] < ys[j]) := by
 rw [List.drop_eq_getElem_cons hx, List.drop_eq_getElem_cons hy]
 conv => lhs; unfold lessL
end Go.Proofs.Ytkblockodaiigaa
namespace Go.Proofs.Ytkblockodaiigaa
set_option maxRecDepth 100000
set_option maxHeartbeats 1000000
open Go.RowKit
set_option linter.unusedVariables false
set_option linter.unusedSimpArgs false
theorem tab_get {steps j : Nat} {L : List (List Int)} (h : j < (tabL steps L).length) (hj : j < L.length) : (tabL steps L)[j] = rowB steps L[j] := by simp [tabL]
theorem emod_small {x st : Nat} (h : x < st) : ((x : Int) % (st : Int)) = (x : Int) := by rw [← Int.natCast_emod, Nat.mod_eq_of_lt h]
theorem pf_rd_free (v : Value) (L : List (List Int)) (steps n r ph sum : Nat) (w : World) (hv : GridB w v (tabL steps L)) (hL : L.length ≤ 1000) (hn : 0 < n) (hn2 : n ≤ 12) (hr : r ≤ 12) (hs : 0 < steps) (hs2 : steps ≤ 96) (hp : ph < steps) (hsum : sum < steps) :
  Calls Try.prog 76 #[.agg #[.int .i64 (steps : Int), v], .int .i64 (r : Int), .int .i64 (n : Int), .int .i64 (ph : Int), .int .i64 (sum : Int)] w fun e w' => e = .returned (.bool (allowB L steps n r (ph : Int) (sum : Int))) ∧ Below w.heap.size w w' := by
 obtain ⟨A, c, rfl, hlm⟩ := hv.slice
 rw [tabL_length] at hv hlm ⊢
 unfold maxLen at hlm
 obtain ⟨W0, hW0, hb0, k0⟩ := newb w (.cells #[.int .i64 (steps : Int), .slice A L.length c] 94)
 obtain ⟨c0, c1⟩ := pc2 k0
 have hI0 : Below W0.heap.size W0 W0 := Below.refl _ _
 have hv0 := hv.le hb0
 have ⟨hv', hb0', k0', hI0', hv0'⟩ := hyd5 hv hb0 k0 hI0 hv0
 clear hv0 hI0 k0 hb0 hv
 go_enter Try.func76, Try.ntmps76
 go_wp2
 go_loopw [1, 3] (fun rx px wr => ∃ j q : Nat, j ≤ L.length + 12 ∧ q < steps ∧ rx = .int .i64 (j : Int) ∧ px = .int .i64 (q : Int) ∧ Hid (Below W0.heap.size W0 wr) ∧ Hid (allowB L steps n r (ph : Int) (sum : Int) = allowB L steps n j (q : Int) (sum : Int))) (fun rx _ _ => L.length + 13 - (intOf rx).toNat)
 case atStart => exact ⟨r, ph, by omega, hp, rfl, rfl, hI0', Lib.hid rfl⟩
 case round =>
  obtain ⟨j, q, hj, hq, rfl, rfl, hbw, heq⟩ := hrel
  have kw := blk hbw.out k0'.out
  clear c0 c1
  obtain ⟨c0, c1⟩ := pc2 kw
  have hbE := bel_set hb0'.out hbw.out
  have hstep := allowB_step (L := L) (steps := steps) (all := (sum : Int)) hn j (q : Int)
  rw [emod_small hq] at hstep
  by_cases hlt : j < L.length
  ·rw [if_pos hlt] at hstep
   have hgd : L.getD j [] = L[j] := by simp [hlt]
   rw [hgd] at hstep
   obtain ⟨b, off, c2, vr, he, hbl, d0, hrow⟩ := (hv0'.out.le hbw.out).at (j := j) (by rw [tabL_length]; exact hlt)
   rw [tabL_length] at he
   injection he with e1 e2 e3
   subst e1 e3
   clear e2
   rw [tab_get _ hlt] at hrow
   obtain ⟨b2, off2, c3, rfl, d1⟩ := hrow.cellB (j := q) (by rw [rowB_length]; exact hq)
   rw [rowB_get] at d1
   rw [rowB_length] at d0
   obtain ⟨B, hB⟩ : ∃ B, memI L[j] (q : Int) = B := ⟨_, rfl⟩
   rw [hB] at d1 hstep
   have j1 : (j : Int) < (L.length : Int) := by omega
   have j2 : (0 : Int) ≤ (j : Int) := by omega
   have j3 : (q : Int) < (steps : Int) := by omega
   have j4 : (0 : Int) ≤ (q : Int) := by omega
   obtain ⟨x, hx⟩ : ∃ x : Nat, ((q : Int) + (sum : Int)) % (steps : Int) = (x : Int) := ⟨(q + sum) % steps, by push_cast; rfl⟩
   have hx1 : x < steps := by have := Int.emod_lt_of_pos ((q : Int) + (sum : Int)) (show (0 : Int) < steps by omega); omega
   have hmod : allowB L steps n (j + n) ((q : Int) + (sum : Int)) (sum : Int) = allowB L steps n (j + n) (x : Int) (sum : Int) := allowB_mod (by rw [← hx, Int.emod_emod])
   have k2 : ¬ (steps : Int) = 0 := by omega
   have k3 : 0 ≤ (q : Int) + (sum : Int) := by omega
   have ⟨hbw', heq', kw', hbE', hrow', hB', hstep', hx'⟩ := hyd8 hbw heq kw hbE hrow hB hstep hx
   have ⟨hmod', hgd'⟩ := hyd2 hmod hgd
   clear hgd hmod hx hstep hB hrow hbE kw heq hbw
   cases B with
   | false =>
    go_wp2
    go_ret
    exact ⟨by rw [heq'.out.out, hstep'.out]; rfl, hbE'.out⟩
   | true =>
    go_wp2
    go_roundw
    case rel => exact ⟨j + n, x, by omega, hx1, by go_num, by rw [hx'.out], hbw'.out, Lib.hid (by rw [heq'.out.out, hstep'.out, hmod'.out]; rfl)⟩
    case measure => simp [intOf]; omega
  ·rw [if_neg hlt] at hstep
   have j1 : ¬ (j : Int) < (L.length : Int) := by omega
   have ⟨hbw', heq', kw', hbE', hstep'⟩ := hyd5 hbw heq kw hbE hstep
   clear hstep hbE kw heq hbw
   go_wp2
   go_ret
   exact ⟨by rw [heq'.out.out, hstep'.out]; rfl, hbE'.out⟩
theorem pf_isNaN (x : Int) (w : World) : Calls Try.prog 104 #[.int .i64 x] w fun e w' => e = .returned (.bool false) ∧ w = w' := by
 go_enter Try.func104, Try.ntmps104
 go_wp2
 go_ret
 exact ⟨by simp, rfl⟩
theorem pf_cmpI (x y : Int) (w : World) : Calls Try.prog 77 #[.int .i64 x, .int .i64 y] w fun e w' => e = .returned (.int .i64 (if x < y then -1 else if y < x then 1 else 0)) ∧ w = w' := by
 by_cases h1 : x < y
 ·go_enter Try.func77, Try.ntmps77
  go_wp2_with (first | (go_at_call 104; ((with_reducible refine (pf_isNaN _ _).mono ?_); rintro e w' ⟨rfl, rfl⟩)) | (go_at_call 104; ((with_reducible refine (pf_isNaN _ _).mono ?_); rintro e w' ⟨rfl, rfl⟩)))
  go_ret
  exact ⟨rfl, rfl⟩
 ·by_cases h2 : y < x
  ·go_enter Try.func77, Try.ntmps77
   go_wp2_with (first | (go_at_call 104; ((with_reducible refine (pf_isNaN _ _).mono ?_); rintro e w' ⟨rfl, rfl⟩)) | (go_at_call 104; ((with_reducible refine (pf_isNaN _ _).mono ?_); rintro e w' ⟨rfl, rfl⟩)))
   go_ret
   exact ⟨rfl, rfl⟩
  ·go_enter Try.func77, Try.ntmps77
   go_wp2_with (first | (go_at_call 104; ((with_reducible refine (pf_isNaN _ _).mono ?_); rintro e w' ⟨rfl, rfl⟩)) | (go_at_call 104; ((with_reducible refine (pf_isNaN _ _).mono ?_); rintro e w' ⟨rfl, rfl⟩)))
   go_ret
   exact ⟨rfl, rfl⟩
theorem pf_sCompare (va vb : Value) (xs ys : List Int) (w : World) (ha : Ints w va xs) (hb : Ints w vb ys) (hl : xs.length = ys.length) : Calls Try.prog 42 #[va, vb] w fun e w' => ∃ c, e = .returned (.int .i64 c) ∧ decide (c < 0) = lessL xs ys ∧ w = w' := by
 obtain ⟨A, c, rfl, hlc, hcm, -, hr⟩ := id ha
 obtain ⟨B, d, rfl, hld, hdm, -, hr2⟩ := id hb
 unfold maxLen at hcm hdm
 clear hr hr2
 have hl2 : xs.length ≤ ys.length := by omega
 have hl3 : ys.length ≤ xs.length := by omega
 have ⟨ha', hb', hl'⟩ := hyd3 ha hb hl
 clear hl hb ha
 go_enter Try.func42, Try.ntmps42
 go_wp2
 go_loopw [11] (fun ix wr => ∃ j : Nat, j ≤ xs.length ∧ ix = .int .i64 j ∧ w = wr ∧ Hid (lessL xs ys = lessL (xs.drop j) (ys.drop j))) (fun ix _ => xs.length - (intOf ix).toNat)
 case atStart => exact ⟨0, Nat.zero_le _, rfl, rfl, Lib.hid rfl⟩
 case round =>
  obtain ⟨j, hj, rfl, rfl, hI⟩ := hrel
  by_cases hlt : j < xs.length
  ·obtain ⟨b, off, c2, heq, hb1, -, -, hcell⟩ := Ints.cells ha'.out (by omega)
   injection heq with e1 e2 e3
   subst e1 e3
   clear e2
   obtain ⟨b2, off2, c2, heq, hb2, -, -, hcell2⟩ := Ints.cells hb'.out (by omega)
   injection heq with e1 e2 e3
   subst e1 e3
   clear e2
   have hc := hcell j hlt
   have hd := hcell2 j (by omega)
   have hst := lessL_step (xs := xs) (ys := ys) hlt (show j < ys.length by omega)
   obtain ⟨x, hx⟩ : ∃ y, xs[j] = y := ⟨_, rfl⟩
   obtain ⟨y, hy⟩ : ∃ y, ys[j]'(by omega) = y := ⟨_, rfl⟩
   rw [hx] at hc hst
   rw [hy] at hd hst
   have j1 : (j : Int) < (xs.length : Int) := by omega
   have j2 : (0 : Int) ≤ (j : Int) := by omega
   have j3 : (j : Int) < (ys.length : Int) := by omega
   have j4 : ¬ (ys.length : Int) ≤ (j : Int) := by omega
   have hcc := fun W => pf_cmpI x y W
   obtain ⟨z, hz⟩ : ∃ z : Int, (if x < y then (-1 : Int) else if y < x then 1 else 0) = z := ⟨_, rfl⟩
   rw [hz] at hcc
   by_cases hxy : x = y
   ·obtain rfl : z = 0 := by rw [← hz, if_neg (by omega), if_neg (by omega)]
    rw [if_pos hxy] at hst
    have ⟨hcell', hcell2', hx', hy', hst', hcc', hz', hxy'⟩ := hyd8 hcell hcell2 hx hy hst hcc hz hxy
    have hI' := hyd1 hI
    clear hI hxy hz hcc hst hy hx hcell2 hcell
    go_wp2_with (first | (go_at_call 77; ((with_reducible refine (hcc'.out _).mono ?_); rintro e w' ⟨rfl, rfl⟩)))
    go_roundw
    case rel => exact ⟨j + 1, by omega, by go_num, trivial, Lib.hid (by rw [hI'.out.out, hst'.out])⟩
    case measure => simp [intOf]; omega
   ·have hz0 : ¬ z = 0 := by rw [← hz]; split; omega; split <;> omega
    have hzl : decide (z < 0) = lessL xs ys := by
     rw [hI.out, hst, if_neg hxy, ← hz]
     by_cases q : x < y
     ·rw [if_pos q]; simp [q]
     ·rw [if_neg q, if_pos (by omega)]; simp [q]
    have ⟨hcell', hcell2', hx', hy', hst', hcc', hz', hxy'⟩ := hyd8 hcell hcell2 hx hy hst hcc hz hxy
    have ⟨hI', hzl'⟩ := hyd2 hI hzl
    clear hzl hI hxy hz hcc hst hy hx hcell2 hcell
    go_wp2_with (first | (go_at_call 77; ((with_reducible refine (hcc'.out _).mono ?_); rintro e w' ⟨rfl, rfl⟩)))
    go_ret
    exact ⟨z, rfl, hzl'.out, rfl⟩
  ·have hfin : decide ((0 : Int) < 0) = lessL xs ys := by
    rw [hI.out, List.drop_of_length_le (show xs.length ≤ j by omega), lessL_nil_left]; rfl
   have j5 : ¬ (xs.length : Int) < (ys.length : Int) := by omega
   have ⟨hI', hfin'⟩ := hyd2 hI hfin
   clear hfin hI
   go_wp2
   go_ret
   exact ⟨0, rfl, hfin'.out, rfl⟩
end Go.Proofs.Ytkblockodaiigaa
namespace Go.Proofs.Ytkblockodaiigaa
set_option maxRecDepth 100000
set_option maxHeartbeats 1000000
open Go.RowKit
set_option linter.unusedVariables false
set_option linter.unusedSimpArgs false
theorem wpList_cap (w : World) {ops : Array Oper} {rest : List Oper} {o : Oper} {a : Act} {Q : Exit → Act → World → Prop}
  (hg : o.guard = none) (l c : Operand) (hop : o.op = Op.makeSlice 36 l c) (base n : Nat) (hl : a.eval l = .int .i64 0) (hc : a.eval c = .int .i64 (n : Int)) (hn : n ≤ 1000000000) (b4 : base ≤ w.heap.size)
  (hK : ∀ w', w'.ownsRow base 3 1 (.slice (some ⟨w.heap.size, 0, none⟩) 0 n) 0 [] → Below w.heap.size w w' → wpList Try.prog ops Q rest (a.put o.dst (.slice (some ⟨w.heap.size, 0, none⟩) 0 n)) w') :
  wpList Try.prog ops Q (o :: rest) a w := by
 obtain ⟨ht, hi, hzs⟩ := elemInt
 obtain ⟨i, hi0, hz, hsz, hby'⟩ := info_parts hi
 refine wpList_make_own w hg l c _ hop base _ i _ 1 ht hi0 hz hsz .i64 .i64 (n : Int) n hl hc rfl (by rw [hby']; omega) (by unfold maxLen; omega) b4 ?_
 intro w' h1 h2
 exact hK w' h1 ((Below.refl _ _).grown h2 (Nat.le_refl _) (by simp))
theorem allowB_add {L : List (List Int)} {steps n r : Nat} {all : Int} {q : Int} {ph s : Nat} (h : (ph : Int) = q % (steps : Int)) : allowB L steps n r (((ph + s) % steps : Nat) : Int) all = allowB L steps n r (q + (s : Int)) all :=
 allowB_mod (by rw [Int.natCast_emod, Int.emod_emod, Int.natCast_add, h, Int.emod_add_emod])
def ShI (L : List (List Int)) (steps n : Nat) (first all : Int) (W0 : World) (r ph : Nat) (vo : Value) (W : World) : Prop :=
 Below W0.heap.size W0 W ∧ ∃ q out, (ph : Int) = q % (steps : Int) ∧ shiftsGo L steps n all (n - 1) 1 first [] = shiftsGo L steps n all (n - r) r q out ∧ W.ownsRow W0.heap.size 3 1 vo out.length (out.map vint) ∧ out.length + 1 = r ∧ vo.ownBlock ≠ none
theorem pf_rd_shifts (v : Value) (L : List (List Int)) (steps n first sum : Nat) (w : World) (hv : GridB w v (tabL steps L)) (hL : L.length ≤ 1000) (hn : 0 < n) (hn2 : n ≤ 12) (hs : 0 < steps) (hs2 : steps ≤ 96) (hf : first < steps) (hsum : sum < steps) :
  Calls Try.prog 41 #[.agg #[.int .i64 (steps : Int), v], .int .i64 (n : Int), .int .i64 (first : Int), .int .i64 (sum : Int)] w fun e w' => ∃ v' b, e = .returned (.tuple #[v', .bool b]) ∧ b = (listedL L steps n (first : Int) (sum : Int)).isSome ∧ Below w.heap.size w w' ∧ (b = true → Ints w' v' ((listedL L steps n (first : Int) (sum : Int)).getD []) ∧ ∃ g l c, v' = .slice (some ⟨g, 0, none⟩) l c ∧ w.heap.size ≤ g) := by
 obtain ⟨A, c, rfl, hlm⟩ := hv.slice
 rw [tabL_length] at hv hlm ⊢
 unfold maxLen at hlm
 have hv9 := hv
 obtain ⟨W0, hW0, hb0, k0⟩ := newb w (.cells #[.int .i64 (steps : Int), .slice A L.length c] 94)
 obtain ⟨c0, c1⟩ := pc2 k0
 have hv0 := hv9.le hb0
 have z0 : w.heap.size < W0.heap.size := gsl k0
 have kfr := fun (W : World) (r ph : Nat) (hr : r ≤ 12) (hph : ph < steps) (h : Below W0.heap.size W0 W) => pf_rd_free _ L steps n r ph sum W (hv0.le h) hL hn hn2 hr hs hs2 hph hsum
 have ⟨hv', hv9', hb0', k0', hv0', kfr'⟩ := hyd6 hv hv9 hb0 k0 hv0 kfr
 clear kfr hv0 k0 hb0 hv9 hv
 go_enter Try.func41, Try.ntmps41
 go_wp2_with (fail)
 go_step3
 go_wp2_with (first | (at_make; go_must (refine wpList_cap _ rfl _ _ rfl W0.heap.size n rfl rfl (by omega) (Nat.le_refl _) ?_)) | fail)
 intro w1 ho1 hb1
 have hI0 : ShI L steps n (first : Int) (sum : Int) W0 1 first (.slice (some ⟨W0.heap.size, 0, none⟩) 0 n) w1 := ⟨hb1, (first : Int), [], (emod_small hf).symm, rfl, ho1, rfl, by simp [Value.ownBlock]⟩
 clear c0 c1 hW0
 have ⟨hI0', ho1', hb1'⟩ := hyd3 hI0 ho1 hb1
 clear hb1 ho1 hI0
 go_wp2_with (fail)
 go_step3
 go_wp2_with (fail)
 go_loopg [12, 11, 10] (n - 1) (fun g rx px vo wr => ∃ r ph : Nat, r + g = n ∧ 1 ≤ r ∧ r ≤ n ∧ ph < steps ∧ rx = .int .i64 (r : Int) ∧ px = .int .i64 (ph : Int) ∧ Hid (ShI L steps n (first : Int) (sum : Int) W0 r ph vo wr))
 case atStart => exact ⟨1, first, by omega, by omega, by omega, hf, rfl, rfl, hI0'⟩
 case round =>
  obtain ⟨r, ph, hrg, hr1, hrn, hph, rfl, rfl, hI⟩ := hrel
  obtain ⟨hbw, q, out, hq, hgo, hown, hlen, hob⟩ := hI.out
  obtain ⟨gO, cO, rfl, hg1, hg2, hg3, hg4⟩ := own_formS hown hob
  have hl1 : out.length + 1 ≤ r := by omega
  have hl2 : r ≤ out.length + 1 := by omega
  clear hlen
  have kw := blk hbw k0'.out
  obtain ⟨c0, c1⟩ := pc2 kw
  by_cases hlt : r < n
  ·have j1 : (r : Int) < (n : Int) := by omega
   have ⟨hI', hbw', hq', hgo', hown', kw', hob'⟩ := hyd7 hI hbw hq hgo hown kw hob
   clear hob kw hown hgo hq hbw hI
   go_wp2_with (fail)
   rename World => wo
   go_loopg [25, 11, 10] steps (fun g sx px vo wr => ∃ s : Nat, s + g = steps ∧ s ≤ steps ∧ sx = .int .i64 (s : Int) ∧ px = .int .i64 (ph : Int) ∧ vo = .slice (some ⟨gO, 0, none⟩) out.length cO ∧ Hid (Below wo.heap.size wo wr) ∧ Hid (∀ t, t < s → allowB L steps n r (q + (t : Int)) (sum : Int) = false))
   case atStart => exact ⟨0, by omega, Nat.zero_le _, rfl, rfl, rfl, Lib.hid (Below.refl _ _), Lib.hid fun t h => absurd h (Nat.not_lt_zero t)⟩
   case round =>
    obtain ⟨s, hsg, hss, rfl, rfl, rfl, hbv, hno⟩ := hrel
    have hbE := hbw'.out.trans (hbv.out.mono hbw'.out.size)
    have kv := blk hbv.out kw'.out
    have hownv := own_below hown'.out hbv.out
    clear c0 c1
    obtain ⟨c0, c1⟩ := pc2 kv
    by_cases hls : s < steps
    ·have k1 : (s : Int) < (steps : Int) := by omega
     obtain ⟨x, hx⟩ : ∃ x : Nat, (ph + s) % steps = x := ⟨_, rfl⟩
     have hx1 : x < steps := by rw [← hx]; exact Nat.mod_lt _ hs
     have hx2 : ((ph : Int) + (s : Int)) % (steps : Int) = (x : Int) := by rw [← hx]; push_cast; rfl
     have kal := kfr'.out wr r x (by omega) hx1 hbE
     have hmod : allowB L steps n r (x : Int) (sum : Int) = allowB L steps n r (q + (s : Int)) (sum : Int) := by rw [← hx]; exact allowB_add hq'.out
     rw [hmod] at kal
     obtain ⟨B, hB⟩ : ∃ B, allowB L steps n r (q + (s : Int)) (sum : Int) = B := ⟨_, rfl⟩
     rw [hB] at kal
     have k2 : ¬ (steps : Int) = 0 := by omega
     have k3 : 0 ≤ (ph : Int) + (s : Int) := by omega
     rw [← hx2] at kal
     have ⟨hno', hbv', hownv', hbE', kal', hmod', hB', kv'⟩ := hyd8 hno hbv hownv hbE kal hmod hB kv
     have ⟨hx', hx2'⟩ := hyd2 hx hx2
     clear hx2 hx kv hB hmod kal hbE hownv hbv hno
     cases B with
     | false =>
      go_wp2_with (fail)
      go_at_call 76
      refine kal'.out.mono ?_
      rintro e w5 ⟨rfl, hb5⟩
      have hbn := bel_set hbv'.out.out hb5
      have hn5 : ∀ t, t < s + 1 → allowB L steps n r (q + (t : Int)) (sum : Int) = false := fun t ht => by
       by_cases e : t = s
       ·subst e; exact hB'.out
       ·exact hno'.out.out t (by omega)
      have ⟨hb5', hbn', hn5'⟩ := hyd3 hb5 hbn hn5
      clear hn5 hbn hb5
      go_wp2
      go_roundg (steps - (s + 1))
      case rel => exact ⟨s + 1, by omega, by omega, by go_num, rfl, rfl, hbn', hn5'⟩
      case measure => omega
     | true =>
      have hsome := shiftAt_some hls hB'.out hno'.out.out
      have hgo2 : shiftsGo L steps n (sum : Int) (n - 1) 1 (first : Int) [] = shiftsGo L steps n (sum : Int) (n - (r + 1)) (r + 1) (q + (s : Int)) (out ++ [(s : Int)]) := by
       rw [hgo'.out, show n - r = (n - (r + 1)) + 1 by omega]
       conv => lhs; unfold shiftsGo
       rw [hsome]
      have hq2 : (x : Int) = (q + (s : Int)) % (steps : Int) := by rw [← hx2'.out, hq'.out, Int.emod_add_emod]
      have ⟨hsome', hgo2', hq2'⟩ := hyd3 hsome hgo2 hq2
      clear hq2 hgo2 hsome
      go_wp2_with (fail)
      go_at_call 76
      refine kal'.out.mono ?_
      rintro e w5 ⟨rfl, hb5⟩
      have hbE5 := hbE'.out.trans (hb5.mono hbE'.out.size)
      have hown5 := own_below hownv'.out hb5
      have hsz5 := hbE5.size
      have ⟨hb5', hbE5', hown5'⟩ := hyd3 hb5 hbE5 hown5
      clear hown5 hbE5 hb5
      go_wp2_with (first | (at_builtin; go_must (refine wpList_appI rfl _ _ 36 rfl W0.heap.size 3 elemInt _ out rfl (hown5'.out.alloc _) _ [(s : Int)] rfl (one_newI _ _ _) (by simp; omega) (by simp; omega) ?_)))
      intro v3 w3 h1 h2 h3 h4
      have hb3 : Below W0.heap.size W0 w3 := (hbE5'.out.alloc hsz5 _).trans h2
      have hob3 : v3.ownBlock ≠ none := fun e => h4 e
      have hI3 : ShI L steps n (first : Int) (sum : Int) W0 (r + 1) x v3 w3 := ⟨hb3, q + (s : Int), out ++ [(s : Int)], hq2'.out, hgo2'.out, by simpa using h1, by simp; omega, hob3⟩
      have ⟨h1', h2', h3', h4', hb3', hob3', hI3'⟩ := hyd7 h1 h2 h3 h4 hb3 hob3 hI3
      clear hI3 hob3 hb3 h4 h3 h2 h1
      go_wp2
      go_roundg (n - (r + 1))
      case rel => exact ⟨r + 1, x, by omega, by omega, by omega, hx1, by go_num, by rw [hx2'.out], hI3'⟩
      case measure => omega
    ·obtain rfl : s = steps := by omega
     have hnone := shiftAt_none hno.out
     have hres : listedL L s n (first : Int) (sum : Int) = none := by
      unfold listedL
      split
      ·rw [hgo'.out, show n - r = (n - (r + 1)) + 1 by omega]
       conv => lhs; unfold shiftsGo
       rw [hnone]
      ·rfl
     have hbR := bel_set hb0'.out hbE
     have ⟨hno', hbv', hownv', hbE', hnone', hres', kv', hbR'⟩ := hyd8 hno hbv hownv hbE hnone hres kv hbR
     clear hbR kv hres hnone hbE hownv hbv hno
     go_wp2
     try rw [Exit.noGoto_ret]
     go_ret2
     exact ⟨_, _, rfl, by rw [hres'.out]; rfl, hbR'.out, fun e => by cases e⟩
  ·obtain rfl : r = n := by omega
   obtain ⟨B, hB⟩ : ∃ B, allowB L steps r 0 (first : Int) (sum : Int) = B := ⟨_, rfl⟩
   have kf0 : ∀ W, Below W0.heap.size W0 W → Calls Try.prog 76 #[.agg #[.int .i64 (steps : Int), .slice A L.length c], .int .i64 0, .int .i64 (r : Int), .int .i64 (first : Int), .int .i64 (sum : Int)] W fun e w' => e = .returned (.bool B) ∧ Below W.heap.size W w' := fun W h => by
    have h := kfr'.out W 0 first (by omega) hf h
    rw [hB] at h
    exact h
   have hres : listedL L steps r (first : Int) (sum : Int) = if B = true then some (out ++ [((sum : Int) - (q - (first : Int))) % (steps : Int)]) else none := by
    unfold listedL
    rw [hB, hgo, Nat.sub_self]
    rfl
   have hy : ((first : Int) + (sum : Int) - (ph : Int)) % (steps : Int) = ((sum : Int) - (q - (first : Int))) % (steps : Int) := by
    rw [← last_shift (by omega), hq, Int.add_emod_right]
   have hS : ∀ W, Below W0.heap.size W0 W → W.cell? ⟨w.heap.size, 0, none⟩ = some (.int .i64 (steps : Int)) ∧ W.cell? ⟨w.heap.size, 1, none⟩ = some (.slice A L.length c) := fun W h => pc2 (blk h k0'.out)
   have hbq : Below W0.heap.size W0 wr.drew := hbw.drew
   have hsz := hbw.size
   have k2 : ¬ (steps : Int) = 0 := by omega
   have k3 : 0 ≤ (first : Int) + (sum : Int) - (ph : Int) + (steps : Int) := by omega
   have i9 : ¬ steps = 0 := by omega
   have i10 : (0 : Int) < (steps : Int) := by omega
   have ⟨hI', hgo', hown', kw', hob', kf0', hres', hy'⟩ := hyd8 hI hgo hown kw hob kf0 hres hy
   have ⟨hS', hB', hq'⟩ := hyd3 hS hB hq
   clear hq hB hS hy hres kf0 hob kw hown hgo hI
   go_wp2_with (fail)
   go_region_held3 (fun w' => w'.cell? ⟨w.heap.size, 0, none⟩ = some (.int .i64 (steps : Int)) ∧ w'.cell? ⟨w.heap.size, 1, none⟩ = some (.slice A L.length c)) (go_keep) (first | (go_at_call 76; with_reducible refine (kf0'.out _ (by first | exact hbq | exact hbq.alloc (by simp; omega) _ | exact hbq3)).mono ?_; rintro e w9 ⟨rfl, hb9⟩; have hbq9 : Below W0.heap.size W0 w9 := (by first | exact hbq.trans (hb9.mono (by simp; omega)) | exact (hbq.alloc (by simp; omega) _).trans (hb9.mono (by simp; omega)) | exact hbq3.trans (hb9.mono hbq3.size)); obtain ⟨t1, t2⟩ := hS'.out _ hbq9) | (refine step_appI rfl (.tmp 46) (.tmp 58) 36 (by rfl) W0.heap.size 3 elemInt _ out (by rfl) (by first | exact hown'.out.alloc _ | exact (own_below hown'.out hb9).alloc _ | exact own_below (hown'.out.alloc _) hb9) (.slice (some ⟨_, 0, none⟩) 1 1) [_] (by rfl) (by first | exact one_newD _ _ _ | exact one_newI _ _ _ | exact Arr.below (one_newD _ _ _) hb9 | exact Arr.below (one_newI _ _ _) hb9) (by simp; omega) (by first | (simp; omega) | exact Nat.le_trans hbq9.size (by simp) | exact hbq9.size) ?_; intro v3 w3 h1 h2 h3 h4; have hbq3 : Below W0.heap.size W0 w3 := (by first | exact (hbq.alloc (by simp; omega) _).trans h2 | exact (hbq9.alloc hbq9.size _).trans h2); obtain ⟨s1, s2⟩ := hS'.out _ hbq3; have h1' := Lib.hid h1; have h4' := Lib.hid h4; clear h1 h3 h4))
   all_goals
    have hyw : (IntKind.i64.wrap (IntKind.i64.wrap (IntKind.i64.wrap ((first : Int) + (sum : Int)) - (ph : Int)) + (steps : Int))).tmod (steps : Int) = ((sum : Int) - (q - (first : Int))) % (steps : Int) := by
     rw [IntWalk.i64_in ((first : Int) + (sum : Int)) (by omega), IntWalk.i64_in ((first : Int) + (sum : Int) - (ph : Int)) (by omega), IntWalk.i64_in ((first : Int) + (sum : Int) - (ph : Int) + (steps : Int)) (by omega), Int.tmod_eq_emod_of_nonneg (by omega), Int.add_emod_right]
     exact hy'.out
    have h1 := h1'.out
    have h4 := h4'.out
    rw [hyw] at h1
    have hob3 : v3.ownBlock ≠ none := fun e => by have := (h4.1 e).2; cases this
    obtain ⟨g3, c3, rfl, hg31, -, -, -⟩ := own_formS h1 hob3
    have hfin : Ints w9 (.slice (some ⟨g3, 0, none⟩) (out ++ [((sum : Int) - (q - (first : Int))) % (steps : Int)]).length c3) (out ++ [((sum : Int) - (q - (first : Int))) % (steps : Int)]) := (own_ints h1).below hb9
    have hbR := bel_set hb0'.out hbq9
    have hzg : w.heap.size ≤ g3 := by omega
    clear hyw h4 h1 h1' h4'
    have ⟨hfin', hbR', hb9', hbq9'⟩ := hyd4 hfin hbR hb9 hbq9
    clear hbq9 hb9 hbR hfin
    go_wp2
    try rw [Exit.noGoto_ret]
    go_ret2
    exact ⟨_, B, rfl, by rw [hres'.out]; cases B <;> rfl, hbR'.out, fun e => ⟨by rw [hres'.out, if_pos e]; exact hfin'.out, _, _, _, rfl, hzg⟩⟩

end Go.Proofs.Ytkblockodaiigaa
namespace Go.Proofs.Ytkblockodaiigaa
set_option maxRecDepth 100000
set_option maxHeartbeats 1000000
open Go.RowKit
set_option linter.unusedVariables false
set_option linter.unusedSimpArgs false
theorem pf_rd_Turned (v : Value) (f : List Int) (s : Nat) (w : World) (hv : Ints w v f) (hok : rosOk f = true) (hs : s < f.length) :
  Calls Try.prog 43 #[v, .int .i64 s] w fun e w' => ∃ v', e = .returned (.tuple #[v', .int .i64 0]) ∧ Below w.heap.size w w' ∧ w'.ownsRow w.heap.size 3 1 v' f.length ((movedL f (s : Int)).map vint) := by
 obtain ⟨h1, h2, -⟩ := rosOk_iff.1 hok
 have hc := pf_ros_Check v f w hv true hok
 have hm := pf_turned v f s w hv (by omega) (by omega) (by omega)
 rw [turnL_length, turn_moved f s (by omega)] at hm
 have ha : ∀ W, Calls Try.prog 79 #[.int .i64 s, .int .i64 f.length] W fun e w' => e = .returned (.int .i64 (s : Int)) ∧ W = w' := fun W => by
  have h := pf_ros_around s f.length W (by omega) (by omega) (by unfold Mid; omega)
  rwa [emod_small hs] at h
 obtain ⟨A, c, rfl, -⟩ := id hv
 have ⟨hc', hm', hv', hok', ha'⟩ := hyd5 hc hm hv hok ha
 clear ha hok hv hm hc
 go_enter Try.func43, Try.ntmps43
 go_wp2_with (first | (go_at_call 64; ((with_reducible refine (hc'.out).mono ?_); rintro e w' ⟨rfl, rfl⟩)) | (go_at_call 79; ((with_reducible refine (ha'.out _).mono ?_); rintro e w' ⟨rfl, rfl⟩)) | (go_at_call 78; ((with_reducible refine (hm'.out).mono ?_); rintro e w' ⟨v1, rfl, hb, ho⟩)))
 go_ret2
 exact ⟨_, rfl, hb, ho⟩
theorem Arr.rowB {W W' : World} {r v : Value} {xs : List Bool} {base e size m : Nat} {ys : List Value} (h : Arr vbool W v xs) (ho : W.ownsRow base e size r m ys) (hall : RowAll IsSl W r) (hg : W.grownBy W' r.ownBlock) : Arr vbool W' v xs := by
 obtain ⟨A, c, hv, h1, h2, hN, h3⟩ := h
 refine ⟨A, c, hv, h1, h2, hN, fun h0 => ?_⟩
 obtain ⟨b, off, ha, hlt, hc⟩ := h3 h0
 have hne : some b ≠ r.ownBlock := fun e => by
  rcases ho.2 with ⟨rfl, -⟩ | ⟨g, cap, cur, rfl, hbg, hgb, -⟩
  ·cases e
  ·have hbg2 : b = g := by simpa [Value.ownBlock] using e
   subst hbg2
   have h4 := hc 0 h0
   simp only [World.cell?, hgb] at h4
   have hm : Value.bool xs[0] ∈ cur.toList := by
    have h6 : cur[off + 0]? = some (Value.bool xs[0]) := by simpa using h4
    have h7 : cur.toList[off + 0]? = some (Value.bool xs[0]) := by simpa using h6
    exact List.mem_of_getElem? h7
   obtain ⟨_, _, _, hz⟩ := hall b cur _ rfl hgb _ hm
   cases hz
 exact ⟨b, off, ha, Nat.lt_of_lt_of_le hlt hg.size, fun j hj => (World.cell?_of_block (hg.block b hlt hne)).trans (hc j hj)⟩
def GrB (W : World) (base : Nat) (vo : Value) (L : List (List Bool)) : Prop := ∃ vs : List Value, vs.length = L.length ∧ W.ownsRow base 95 1 vo L.length vs ∧ RowAll IsSl W vo ∧ ∀ i (h1 : i < vs.length) (h2 : i < L.length), Arr vbool W vs[i] L[i]
theorem GrB.nil (W : World) (base : Nat) : GrB W base (.slice none 0 0) [] := ⟨[], rfl, World.ownsRow_nil _ _ _ _, RowAll.nil _ _, fun i h => absurd h (Nat.not_lt_zero i)⟩
theorem GrB.le {W W' : World} {base : Nat} {vo : Value} {L : List (List Bool)} (h : GrB W base vo L) (hb : Below W.heap.size W W') : GrB W' base vo L := by
 obtain ⟨vs, h1, h2, h3, h4⟩ := h
 exact ⟨vs, h1, own_below h2 hb, h3.same fun g hg => hb.block g (h2.lt g hg).2, fun i a b => (h4 i a b).below hb⟩
theorem GrB.form {W : World} {base : Nat} {vo : Value} {L : List (List Bool)} (h : GrB W base vo L) : ∃ A c, vo = .slice A L.length c := by
 obtain ⟨vs, h1, h2, -⟩ := h
 rcases h2.2 with ⟨rfl, e⟩ | ⟨g, cap, cur, rfl, _⟩
 ·exact ⟨none, 0, by rw [e]⟩
 ·exact ⟨_, cap, rfl⟩
theorem GrB.grid {W : World} {base : Nat} {vo : Value} {L : List (List Bool)} (h : GrB W base vo L) : GridB W vo L := by
 obtain ⟨vs, h1, h2, h3, h4⟩ := h
 have h0 := h2
 rcases h2.2 with ⟨rfl, hx⟩ | ⟨g, cap, cur, rfl, hbg, hg, hnc, hcm, hcs, htake⟩
 ·have hn : L = [] := List.eq_nil_of_length_eq_zero hx
  subst hn
  exact ⟨none, 0, rfl, Nat.le_refl _, Nat.zero_le _, fun _ => rfl, fun h => absurd h (Nat.lt_irrefl 0)⟩
 ·refine ⟨some ⟨g, 0, none⟩, cap, rfl, hnc, hcm, fun h => (by cases h), fun _ => ⟨g, 0, rfl, (gsl hg), fun j hj => ⟨vs[j]'(by omega), ?_, h4 j (by omega) hj⟩⟩⟩
  rw [Nat.zero_add, h0.cellAt j (by omega)]
  exact List.getElem?_eq_getElem (by omega)
theorem GrB.put {W : World} {base : Nat} {vo : Value} {L : List (List Bool)} (h : GrB W base vo L) {X k : Nat} {cs : Array Value} {t : TypeId} (hX : W.heap[X]? = some (.cells cs t)) (hlt : X < base) (ht : 95 ≠ t) (hne : ∀ c ∈ cs.toList, ∀ b, c ≠ .bool b) (u : Value) : GrB (W.setCell ⟨X, k, none⟩ u) base vo L := by
 obtain ⟨vs, h1, h2, h3, h4⟩ := h
 refine ⟨vs, h1, own_apart h2 hlt u, h3.same fun g hg => (Below.heap_setCell W ⟨X, k, none⟩ u g (by have := (h2.lt g hg).1; show g ≠ X; omega)), fun i a b => ?_⟩
 obtain ⟨A, c, hv, q1, q2, hN, q3⟩ := h4 i a b
 refine ⟨A, c, hv, q1, q2, hN, fun h0 => ?_⟩
 obtain ⟨bb, off, ha, hl, hc⟩ := q3 h0
 have hneb : bb ≠ X := by
  rintro rfl
  have h5 := hc 0 h0
  simp only [World.cell?, hX] at h5
  have h6 : cs[off + 0]? = some (Value.bool (L[i])[0]) := by simpa using h5
  have h7 : cs.toList[off + 0]? = some (Value.bool (L[i])[0]) := by simpa using h6
  exact hne _ (List.mem_of_getElem? h7) _ rfl
 exact ⟨bb, off, ha, by simpa [World.setCell] using hl, fun j hj => (set_apart hneb W k (off + j) u).trans (hc j hj)⟩
theorem rowInfoB : (Try.prog.info? 95).map (fun i => (i.zero, i.size, i.bytes)) = some (some (.slice none 0 0), 1, 24) := by kernel_rfl
theorem elemB9 : Elem1 Try.prog 95 4 (.bool false) 1 := ⟨Try.underlying95, by kernel_rfl, rfl⟩
theorem wpList_appRB (w : World) {ops : Array Oper} {rest : List Oper} {o : Oper} {a : Act} {Q : Exit → Act → World → Prop} (hgd : o.guard = none) (s x : Operand)
  (ho : o.op = .call { callee := .builtin .append, args := #[s, x], argTypes := #[92, 92] })
  (base : Nat) (v : Value) (L : List (List Bool)) (hs : a.eval s = v) (hown : GrB w base v L)
  (B : Nat) (A : Option Addr) (n c : Nat) (y : List Bool) (hx : a.eval x = .slice (some ⟨B, 0, none⟩) 1 1) (hc0 : w.cell? ⟨B, 0, none⟩ = some (.slice A n c)) (hy : Arr vbool w (.slice A n c) y) (hlen : L.length ≤ 1000000) (hbase : base ≤ w.heap.size)
  (h : ∀ v' w', GrB w' base v' (L ++ [y]) → (∀ n, n ≤ base → Below n w w') → wpList Try.prog ops Q rest (a.put o.dst v') w') : wpList Try.prog ops Q (o :: rest) a w := by
 obtain ⟨mi, hmi, hz0, hz1, hzb⟩ := info_parts rowInfoB
 obtain ⟨vs, h1, h2, h3, h4⟩ := hown
 refine wpList_append_ownC IsSl w hgd s x 92 ho base 95 mi _ 1 24 Try.underlying92 hmi hz0 hz1 hzb rfl (by decide) v L.length vs hs h2 ⟨B, 0, none⟩ 1 1 [.slice A n c] hx rfl (fun j u hu => ?_) (fun u hu => ?_) (by unfold maxLen; omega) (by omega) hbase (by decide) (fun u hu => ?_) (fun j hj => ?_) h3 ?_
 ·have hj : j < 1 := (List.getElem?_eq_some_iff.1 hu).1
  obtain rfl : j = 0 := by omega
  have hadd : (⟨B, 0, none⟩ : Addr).add 0 = ⟨B, 0, none⟩ := by unfold Addr.add; split <;> simp_all
  rw [hadd, hc0]; simpa using hu
 ·obtain rfl : u = _ := by simpa using hu
  rfl
 ·obtain rfl : u = _ := by simpa using hu
  exact ⟨_, _, _, rfl⟩
 ·obtain rfl : j = 0 := by omega
  exact ⟨none, 0, 0, rfl⟩
 ·intro v' w' g1 g2 g3 g4 g5
  refine h v' w' ⟨vs ++ [.slice A n c], by simp [h1], by rw [show (L ++ [y]).length = L.length + 1 by simp]; exact g1, g4, fun i a b => ?_⟩ (fun n hn => Below.grown (Below.refl n w) g2 (by omega) (fun k e => by have := (h2.lt k e).1; omega))
  by_cases hi : i < vs.length
  ·rw [List.getElem_append_left hi, List.getElem_append_left (by omega)]
   exact (h4 i hi (by omega)).rowB h2 h3 g2
  ·have hi2 : i = vs.length := by simp at a; omega
   subst hi2
   have e1 : (vs ++ [Value.slice A n c])[vs.length]'a = .slice A n c := by simp
   have e2 : (L ++ [y])[vs.length]'b = y := by rw [List.getElem_append_right (by omega)]; simp [h1]
   rw [e1, e2]
   exact hy.rowB h2 h3 g2
end Go.Proofs.Ytkblockodaiigaa
