/- The program's table of the phases that fit, plain and in memory. The program's table: free, shifts; slices.Compare. The program's table: shifts. rosette.Turned; a list of lists of Booleans under way; rows of Booleans that are marked. read.Fits: the walk. All blocks but one stay: a relation between worlds for regions with one store (wp_region_one). read.Simplest: the walk. -/
import Derived.Test.YtphdalgaemefoaaGreatRdFitsW
import Derived.Test.YtphdalgaemefoaaGreatRdFitQ
import Derived.Test.YtphdalgaemefoaaGreatRdMount
import Derived.Test.YtphdalgaemefoaaGreatRdSimpW
import Derived.Deep.LoopGhost
import Derived.Deep.RegionHeld3
import Derived.Lib.MinMax
namespace Go.Proofs.YtphdalgaemefoaaGreat
set_option maxRecDepth 100000
set_option maxHeartbeats 1000000
open Go.RowKit
set_option linter.unusedVariables false
set_option linter.unusedSimpArgs false
def rowB (steps : Nat) (l : List Int) : List Bool := (List.range steps).map fun (k : Nat) => memI l (k : Int)
def tabL (steps : Nat) (L : List (List Int)) : List (List Bool) := L.map (rowB steps)
theorem rowB_length (steps : Nat) (l : List Int) : (rowB steps l).length = steps := by unfold rowB; simp
theorem tabL_length (steps : Nat) (L : List (List Int)) : (tabL steps L).length = L.length := by unfold tabL; simp
theorem rowB_get {steps : Nat} {l : List Int} {k : Nat} (h : k < (rowB steps l).length) : (rowB steps l)[k] = memI l (k : Int) := by simp [rowB]
theorem rowB_get? {steps : Nat} {l : List Int} {k : Nat} (h : k < steps) : (rowB steps l)[k]? = some (memI l (k : Int)) := by rw [List.getElem?_eq_getElem (by rw [rowB_length]; exact h), rowB_get]
theorem rowB_nil (steps : Nat) : rowB steps [] = List.replicate steps false := by
 apply List.ext_getElem
 ·rw [rowB_length]; simp
 ·intro i h1 h2; rw [rowB_get]; simp [memI]
theorem memI_snoc (l : List Int) (x k : Int) : memI (l ++ [x]) k = (memI l k || decide (x = k)) := by unfold memI; simp
theorem rowB_set {steps : Nat} {l : List Int} {x : Nat} (h : x < steps) : (rowB steps l).set x true = rowB steps (l ++ [(x : Int)]) := by
 apply List.ext_getElem
 ·rw [List.length_set, rowB_length, rowB_length]
 ·intro i h1 h2
  rw [rowB_get, List.getElem_set, memI_snoc]
  by_cases e : x = i
  ·subst e; simp
  ·rw [if_neg e, rowB_get]; simp; omega
theorem tab_take {α : Type} {l : List α} {j : Nat} (h : j < l.length) : l.take (j + 1) = l.take j ++ [l[j]] := by rw [List.take_succ_eq_append_getElem h]
theorem tabL_take {steps : Nat} {L : List (List Int)} {c : Nat} (h : c < L.length) : tabL steps (L.take (c + 1)) = tabL steps (L.take c) ++ [rowB steps L[c]] := by
 unfold tabL
 rw [tab_take h, List.map_append]
 rfl
abbrev vbool : Bool → Value := Value.bool
def GridB (w : World) (v : Value) (L : List (List Bool)) : Prop :=
 ∃ A c, v = .slice A L.length c ∧ L.length ≤ c ∧ c ≤ maxLen ∧ (A = none → c = 0) ∧
  (0 < L.length → ∃ b off, A = some ⟨b, off, none⟩ ∧ b < w.heap.size ∧ ∀ j (h : j < L.length), ∃ vr, w.cell? ⟨b, off + j, none⟩ = some vr ∧ Arr vbool w vr L[j])
theorem GridB.le {w W : World} {v : Value} {L : List (List Bool)} (h : GridB w v L) (hb : Below w.heap.size w W) : GridB W v L := by
 obtain ⟨A, c, hv, h1, h2, hN, h3⟩ := h
 refine ⟨A, c, hv, h1, h2, hN, fun h0 => ?_⟩
 obtain ⟨b, off, ha, hlt, hc⟩ := h3 h0
 refine ⟨b, off, ha, Nat.lt_of_lt_of_le hlt hb.size, fun j hj => ?_⟩
 obtain ⟨vr, c0, i0⟩ := hc j hj
 exact ⟨vr, (Below.cell hb (p := ⟨b, _, none⟩) hlt).trans c0, i0.below hb⟩
theorem GridB.at {w : World} {v : Value} {L : List (List Bool)} (h : GridB w v L) {j : Nat} (hj : j < L.length) : ∃ b off c vr, v = .slice (some ⟨b, off, none⟩) L.length c ∧ b < w.heap.size ∧ w.cell? ⟨b, off + j, none⟩ = some vr ∧ Arr vbool w vr L[j] := by
 obtain ⟨A, c, rfl, h1, h2, hN, h3⟩ := h
 obtain ⟨b, off, rfl, hlt, hc⟩ := h3 (by omega)
 obtain ⟨vr, c0, i0⟩ := hc j hj
 exact ⟨b, off, c, vr, rfl, hlt, c0, i0⟩
theorem GridB.slice {w : World} {v : Value} {L : List (List Bool)} (h : GridB w v L) : ∃ A c, v = .slice A L.length c ∧ L.length ≤ maxLen := by
 obtain ⟨A, c, rfl, h1, h2, -⟩ := h
 exact ⟨A, c, rfl, by omega⟩
theorem Arr.cellB {w : World} {v : Value} {L : List Bool} (h : Arr vbool w v L) {j : Nat} (hj : j < L.length) : ∃ b off c, v = .slice (some ⟨b, off, none⟩) L.length c ∧ w.cell? ⟨b, off + j, none⟩ = some (.bool L[j]) := by
 obtain ⟨A, c, rfl, h1, h2, hN, h3⟩ := h
 obtain ⟨b, off, rfl, hlt, hc⟩ := h3 (by omega)
 exact ⟨b, off, c, rfl, hc j hj⟩
theorem last_shift {first sum ph st : Int} (h : 0 < st) : (first + sum - ph % st + st) % st = (sum - (ph - first)) % st := by
 rw [Int.add_emod_right, show first + sum - ph % st = (first + sum) - ph % st from rfl, Int.sub_emod_emod]
 congr 1
 omega
theorem lessL_nil_left (m : List Int) : lessL [] m = false := by unfold lessL; rfl
theorem lessL_step {xs ys : List Int} {j : Nat} (hx : j < xs.length) (hy : j < ys.length) : lessL (xs.drop j) (ys.drop j) = if xs[j] = ys[j] then lessL (xs.drop (j + 1)) (ys.drop (j + 1)) else decide (xs[j] < ys[j]) := by
 rw [List.drop_eq_getElem_cons hx, List.drop_eq_getElem_cons hy]
 conv => lhs; unfold lessL
end Go.Proofs.YtphdalgaemefoaaGreat
namespace Go.Proofs.YtphdalgaemefoaaGreat
set_option maxRecDepth 100000
set_option maxHeartbeats 1000000
open Go.RowKit
set_option linter.unusedVariables false
set_option linter.unusedSimpArgs false
theorem tab_get {steps j : Nat} {L : List (List Int)} (h : j < (tabL steps L).length) (hj : j < L.length) : (tabL steps L)[j] = rowB steps L[j] := by simp [tabL]
theorem emod_small {x st : Nat} (h : x < st) : ((x : Int) % (st : Int)) = (x : Int) := by rw [← Int.natCast_emod, Nat.mod_eq_of_lt h]
theorem pf_rd_free (v : Value) (L : List (List Int)) (steps n r ph sum : Nat) (w : World) (hv : GridB w v (tabL steps L)) (hL : L.length ≤ 1000) (hn : 0 < n) (hn2 : n ≤ 12) (hr : r ≤ 12) (hs : 0 < steps) (hs2 : steps ≤ 96) (hp : ph < steps) (hsum : sum < steps) :
  Calls Tryz.prog 50 #[.agg #[.int .i64 (steps : Int), v], .int .i64 (r : Int), .int .i64 (n : Int), .int .i64 (ph : Int), .int .i64 (sum : Int)] w fun e w' => e = .returned (.bool (allowB L steps n r (ph : Int) (sum : Int))) ∧ Below w.heap.size w w' := by
 obtain ⟨A, c, rfl, hlm⟩ := hv.slice
 rw [tabL_length] at hv hlm ⊢
 unfold maxLen at hlm
 obtain ⟨W0, hW0, hb0, k0⟩ := newb w (.cells #[.int .i64 (steps : Int), .slice A L.length c] 69)
 obtain ⟨c0, c1⟩ := pc2 k0
 have hI0 : Below W0.heap.size W0 W0 := Below.refl _ _
 have hv0 := hv.le hb0
 have ⟨hv', hb0', k0', hI0', hv0'⟩ := hyd5 hv hb0 k0 hI0 hv0
 clear hv0 hI0 k0 hb0 hv
 go_enter Tryz.func50, Tryz.ntmps50
 go_wp2
 go_loopw [1, 3] (fun rx px wr => ∃ j q : Nat, j ≤ L.length + 12 ∧ q < steps ∧ rx = .int .i64 (j : Int) ∧ px = .int .i64 (q : Int) ∧ Hid (Below W0.heap.size W0 wr) ∧ Hid (allowB L steps n r (ph : Int) (sum : Int) = allowB L steps n j (q : Int) (sum : Int))) (fun rx _ _ => L.length + 13 - (intOf rx).toNat)
 case atStart => exact ⟨r, ph, by omega, hp, rfl, rfl, hI0', Lib.hid rfl⟩
 case round =>
  obtain ⟨j, q, hj, hq, rfl, rfl, hbw, heq⟩ := hrel
  have kw := blk hbw.out k0'.out
  clear c0 c1
  obtain ⟨c0, c1⟩ := pc2 kw
  have hbE := bel_set hb0'.out hbw.out
  have hstep := allowB_step (L := L) (steps := steps) (all := (sum : Int)) hn j (q : Int)
  rw [emod_small hq] at hstep
  by_cases hlt : j < L.length
  ·rw [if_pos hlt] at hstep
   have hgd : L.getD j [] = L[j] := by simp [hlt]
   rw [hgd] at hstep
   obtain ⟨b, off, c2, vr, he, hbl, d0, hrow⟩ := (hv0'.out.le hbw.out).at (j := j) (by rw [tabL_length]; exact hlt)
   rw [tabL_length] at he
   injection he with e1 e2 e3
   subst e1 e3
   clear e2
   rw [tab_get _ hlt] at hrow
   obtain ⟨b2, off2, c3, rfl, d1⟩ := hrow.cellB (j := q) (by rw [rowB_length]; exact hq)
   rw [rowB_get] at d1
   rw [rowB_length] at d0
   obtain ⟨B, hB⟩ : ∃ B, memI L[j] (q : Int) = B := ⟨_, rfl⟩
   rw [hB] at d1 hstep
   have j1 : (j : Int) < (L.length : Int) := by omega
   have j2 : (0 : Int) ≤ (j : Int) := by omega
   have j3 : (q : Int) < (steps : Int) := by omega
   have j4 : (0 : Int) ≤ (q : Int) := by omega
   obtain ⟨x, hx⟩ : ∃ x : Nat, ((q : Int) + (sum : Int)) % (steps : Int) = (x : Int) := ⟨(q + sum) % steps, by push_cast; rfl⟩
   have hx1 : x < steps := by have := Int.emod_lt_of_pos ((q : Int) + (sum : Int)) (show (0 : Int) < steps by omega); omega
   have hmod : allowB L steps n (j + n) ((q : Int) + (sum : Int)) (sum : Int) = allowB L steps n (j + n) (x : Int) (sum : Int) := allowB_mod (by rw [← hx, Int.emod_emod])
   have k2 : ¬ (steps : Int) = 0 := by omega
   have k3 : 0 ≤ (q : Int) + (sum : Int) := by omega
   have ⟨hbw', heq', kw', hbE', hrow', hB', hstep', hx'⟩ := hyd8 hbw heq kw hbE hrow hB hstep hx
   have ⟨hmod', hgd'⟩ := hyd2 hmod hgd
   clear hgd hmod hx hstep hB hrow hbE kw heq hbw
   cases B with
   | false =>
    go_wp2
    go_ret
    exact ⟨by rw [heq'.out.out, hstep'.out]; rfl, hbE'.out⟩
   | true =>
    go_wp2
    go_roundw
    case rel => exact ⟨j + n, x, by omega, hx1, by go_num, by rw [hx'.out], hbw'.out, Lib.hid (by rw [heq'.out.out, hstep'.out, hmod'.out]; rfl)⟩
    case measure => simp [intOf]; omega
  ·rw [if_neg hlt] at hstep
   have j1 : ¬ (j : Int) < (L.length : Int) := by omega
   have ⟨hbw', heq', kw', hbE', hstep'⟩ := hyd5 hbw heq kw hbE hstep
   clear hstep hbE kw heq hbw
   go_wp2
   go_ret
   exact ⟨by rw [heq'.out.out, hstep'.out]; rfl, hbE'.out⟩
theorem pf_isNaN (x : Int) (w : World) : Calls Tryz.prog 70 #[.int .i64 x] w fun e w' => e = .returned (.bool false) ∧ w = w' := by
 go_enter Tryz.func70, Tryz.ntmps70
 go_wp2
 go_ret
 exact ⟨by simp, rfl⟩
theorem pf_cmpI (x y : Int) (w : World) : Calls Tryz.prog 51 #[.int .i64 x, .int .i64 y] w fun e w' => e = .returned (.int .i64 (if x < y then -1 else if y < x then 1 else 0)) ∧ w = w' := by
 by_cases h1 : x < y
 ·go_enter Tryz.func51, Tryz.ntmps51
  go_wp2_with (first | (go_at_call 70; ((with_reducible refine (pf_isNaN _ _).mono ?_); rintro e w' ⟨rfl, rfl⟩)) | (go_at_call 70; ((with_reducible refine (pf_isNaN _ _).mono ?_); rintro e w' ⟨rfl, rfl⟩)))
  go_ret
  exact ⟨rfl, rfl⟩
 ·by_cases h2 : y < x
  ·go_enter Tryz.func51, Tryz.ntmps51
   go_wp2_with (first | (go_at_call 70; ((with_reducible refine (pf_isNaN _ _).mono ?_); rintro e w' ⟨rfl, rfl⟩)) | (go_at_call 70; ((with_reducible refine (pf_isNaN _ _).mono ?_); rintro e w' ⟨rfl, rfl⟩)))
   go_ret
   exact ⟨rfl, rfl⟩
  ·go_enter Tryz.func51, Tryz.ntmps51
   go_wp2_with (first | (go_at_call 70; ((with_reducible refine (pf_isNaN _ _).mono ?_); rintro e w' ⟨rfl, rfl⟩)) | (go_at_call 70; ((with_reducible refine (pf_isNaN _ _).mono ?_); rintro e w' ⟨rfl, rfl⟩)))
   go_ret
   exact ⟨rfl, rfl⟩
theorem pf_sCompare (va vb : Value) (xs ys : List Int) (w : World) (ha : Ints w va xs) (hb : Ints w vb ys) (hl : xs.length = ys.length) : Calls Tryz.prog 23 #[va, vb] w fun e w' => ∃ c, e = .returned (.int .i64 c) ∧ decide (c < 0) = lessL xs ys ∧ w = w' := by
 obtain ⟨A, c, rfl, hlc, hcm, -, hr⟩ := id ha
 obtain ⟨B, d, rfl, hld, hdm, -, hr2⟩ := id hb
 unfold maxLen at hcm hdm
 clear hr hr2
 have hl2 : xs.length ≤ ys.length := by omega
 have hl3 : ys.length ≤ xs.length := by omega
 have ⟨ha', hb', hl'⟩ := hyd3 ha hb hl
 clear hl hb ha
 go_enter Tryz.func23, Tryz.ntmps23
 go_wp2
 go_loopw [11] (fun ix wr => ∃ j : Nat, j ≤ xs.length ∧ ix = .int .i64 j ∧ w = wr ∧ Hid (lessL xs ys = lessL (xs.drop j) (ys.drop j))) (fun ix _ => xs.length - (intOf ix).toNat)
 case atStart => exact ⟨0, Nat.zero_le _, rfl, rfl, Lib.hid rfl⟩
 case round =>
  obtain ⟨j, hj, rfl, rfl, hI⟩ := hrel
  by_cases hlt : j < xs.length
  ·obtain ⟨b, off, c2, heq, hb1, -, -, hcell⟩ := Ints.cells ha'.out (by omega)
   injection heq with e1 e2 e3
   subst e1 e3
   clear e2
   obtain ⟨b2, off2, c2, heq, hb2, -, -, hcell2⟩ := Ints.cells hb'.out (by omega)
   injection heq with e1 e2 e3
   subst e1 e3
   clear e2
   have hc := hcell j hlt
   have hd := hcell2 j (by omega)
   have hst := lessL_step (xs := xs) (ys := ys) hlt (show j < ys.length by omega)
   obtain ⟨x, hx⟩ : ∃ y, xs[j] = y := ⟨_, rfl⟩
   obtain ⟨y, hy⟩ : ∃ y, ys[j]'(by omega) = y := ⟨_, rfl⟩
   rw [hx] at hc hst
   rw [hy] at hd hst
   have j1 : (j : Int) < (xs.length : Int) := by omega
   have j2 : (0 : Int) ≤ (j : Int) := by omega
   have j3 : (j : Int) < (ys.length : Int) := by omega
   have j4 : ¬ (ys.length : Int) ≤ (j : Int) := by omega
   have hcc := fun W => pf_cmpI x y W
   obtain ⟨z, hz⟩ : ∃ z : Int, (if x < y then (-1 : Int) else if y < x then 1 else 0) = z := ⟨_, rfl⟩
   rw [hz] at hcc
   by_cases hxy : x = y
   ·obtain rfl : z = 0 := by rw [← hz, if_neg (by omega), if_neg (by omega)]
    rw [if_pos hxy] at hst
    have ⟨hcell', hcell2', hx', hy', hst', hcc', hz', hxy'⟩ := hyd8 hcell hcell2 hx hy hst hcc hz hxy
    have hI' := hyd1 hI
    clear hI hxy hz hcc hst hy hx hcell2 hcell
    go_wp2_with (first | (go_at_call 51; ((with_reducible refine (hcc'.out _).mono ?_); rintro e w' ⟨rfl, rfl⟩)))
    go_roundw
    case rel => exact ⟨j + 1, by omega, by go_num, trivial, Lib.hid (by rw [hI'.out.out, hst'.out])⟩
    case measure => simp [intOf]; omega
   ·have hz0 : ¬ z = 0 := by rw [← hz]; split; omega; split <;> omega
    have hzl : decide (z < 0) = lessL xs ys := by
     rw [hI.out, hst, if_neg hxy, ← hz]
     by_cases q : x < y
     ·rw [if_pos q]; simp [q]
     ·rw [if_neg q, if_pos (by omega)]; simp [q]
    have ⟨hcell', hcell2', hx', hy', hst', hcc', hz', hxy'⟩ := hyd8 hcell hcell2 hx hy hst hcc hz hxy
    have ⟨hI', hzl'⟩ := hyd2 hI hzl
    clear hzl hI hxy hz hcc hst hy hx hcell2 hcell
    go_wp2_with (first | (go_at_call 51; ((with_reducible refine (hcc'.out _).mono ?_); rintro e w' ⟨rfl, rfl⟩)))
    go_ret
    exact ⟨z, rfl, hzl'.out, rfl⟩
  ·have hfin : decide ((0 : Int) < 0) = lessL xs ys := by
    rw [hI.out, List.drop_of_length_le (show xs.length ≤ j by omega), lessL_nil_left]; rfl
   have j5 : ¬ (xs.length : Int) < (ys.length : Int) := by omega
   have ⟨hI', hfin'⟩ := hyd2 hI hfin
   clear hfin hI
   go_wp2
   go_ret
   exact ⟨0, rfl, hfin'.out, rfl⟩
end Go.Proofs.YtphdalgaemefoaaGreat
namespace Go.Proofs.YtphdalgaemefoaaGreat
set_option maxRecDepth 100000
set_option maxHeartbeats 1000000
open Go.RowKit
set_option linter.unusedVariables false
set_option linter.unusedSimpArgs false
theorem wpList_cap (w : World) {ops : Array Oper} {rest : List Oper} {o : Oper} {a : Act} {Q : Exit → Act → World → Prop}
  (hg : o.guard = none) (l c : Operand) (hop : o.op = Op.makeSlice 36 l c) (base n : Nat) (hl : a.eval l = .int .i64 0) (hc : a.eval c = .int .i64 (n : Int)) (hn : n ≤ 1000000000) (b4 : base ≤ w.heap.size)
  (hK : ∀ w', w'.ownsRow base 3 1 (.slice (some ⟨w.heap.size, 0, none⟩) 0 n) 0 [] → Below w.heap.size w w' → wpList Tryz.prog ops Q rest (a.put o.dst (.slice (some ⟨w.heap.size, 0, none⟩) 0 n)) w') :
  wpList Tryz.prog ops Q (o :: rest) a w := by
 obtain ⟨ht, hi, hzs⟩ := elemInt
 obtain ⟨i, hi0, hz, hsz, hby'⟩ := info_parts hi
 refine wpList_make_own w hg l c _ hop base _ i _ 1 ht hi0 hz hsz .i64 .i64 (n : Int) n hl hc rfl (by rw [hby']; omega) (by unfold maxLen; omega) b4 ?_
 intro w' h1 h2
 exact hK w' h1 ((Below.refl _ _).grown h2 (Nat.le_refl _) (by simp))
theorem allowB_add {L : List (List Int)} {steps n r : Nat} {all : Int} {q : Int} {ph s : Nat} (h : (ph : Int) = q % (steps : Int)) : allowB L steps n r (((ph + s) % steps : Nat) : Int) all = allowB L steps n r (q + (s : Int)) all :=
 allowB_mod (by rw [Int.natCast_emod, Int.emod_emod, Int.natCast_add, h, Int.emod_add_emod])
def ShI (L : List (List Int)) (steps n : Nat) (first all : Int) (W0 : World) (r ph : Nat) (vo : Value) (W : World) : Prop :=
 Below W0.heap.size W0 W ∧ ∃ q out, (ph : Int) = q % (steps : Int) ∧ shiftsGo L steps n all (n - 1) 1 first [] = shiftsGo L steps n all (n - r) r q out ∧ W.ownsRow W0.heap.size 3 1 vo out.length (out.map vint) ∧ out.length + 1 = r ∧ vo.ownBlock ≠ none
theorem pf_rd_shifts (v : Value) (L : List (List Int)) (steps n first sum : Nat) (w : World) (hv : GridB w v (tabL steps L)) (hL : L.length ≤ 1000) (hn : 0 < n) (hn2 : n ≤ 12) (hs : 0 < steps) (hs2 : steps ≤ 96) (hf : first < steps) (hsum : sum < steps) :
  Calls Tryz.prog 22 #[.agg #[.int .i64 (steps : Int), v], .int .i64 (n : Int), .int .i64 (first : Int), .int .i64 (sum : Int)] w fun e w' => ∃ v' b, e = .returned (.tuple #[v', .bool b]) ∧ b = (listedL L steps n (first : Int) (sum : Int)).isSome ∧ Below w.heap.size w w' ∧ (b = true → Ints w' v' ((listedL L steps n (first : Int) (sum : Int)).getD []) ∧ ∃ g l c, v' = .slice (some ⟨g, 0, none⟩) l c ∧ w.heap.size ≤ g) := by
 obtain ⟨A, c, rfl, hlm⟩ := hv.slice
 rw [tabL_length] at hv hlm ⊢
 unfold maxLen at hlm
 have hv9 := hv
 obtain ⟨W0, hW0, hb0, k0⟩ := newb w (.cells #[.int .i64 (steps : Int), .slice A L.length c] 69)
 obtain ⟨c0, c1⟩ := pc2 k0
 have hv0 := hv9.le hb0
 have z0 : w.heap.size < W0.heap.size := gsl k0
 have kfr := fun (W : World) (r ph : Nat) (hr : r ≤ 12) (hph : ph < steps) (h : Below W0.heap.size W0 W) => pf_rd_free _ L steps n r ph sum W (hv0.le h) hL hn hn2 hr hs hs2 hph hsum
 have ⟨hv', hv9', hb0', k0', hv0', kfr'⟩ := hyd6 hv hv9 hb0 k0 hv0 kfr
 clear kfr hv0 k0 hb0 hv9 hv
 go_enter Tryz.func22, Tryz.ntmps22
 go_wp2_with (fail)
 go_step3
 go_wp2_with (first | (at_make; go_must (refine wpList_cap _ rfl _ _ rfl W0.heap.size n rfl rfl (by omega) (Nat.le_refl _) ?_)) | fail)
 intro w1 ho1 hb1
 have hI0 : ShI L steps n (first : Int) (sum : Int) W0 1 first (.slice (some ⟨W0.heap.size, 0, none⟩) 0 n) w1 := ⟨hb1, (first : Int), [], (emod_small hf).symm, rfl, ho1, rfl, by simp [Value.ownBlock]⟩
 clear c0 c1 hW0
 have ⟨hI0', ho1', hb1'⟩ := hyd3 hI0 ho1 hb1
 clear hb1 ho1 hI0
 go_wp2_with (fail)
 go_step3
 go_wp2_with (fail)
 go_loopg [12, 11, 10] (n - 1) (fun g rx px vo wr => ∃ r ph : Nat, r + g = n ∧ 1 ≤ r ∧ r ≤ n ∧ ph < steps ∧ rx = .int .i64 (r : Int) ∧ px = .int .i64 (ph : Int) ∧ Hid (ShI L steps n (first : Int) (sum : Int) W0 r ph vo wr))
 case atStart => exact ⟨1, first, by omega, by omega, by omega, hf, rfl, rfl, hI0'⟩
 case round =>
  obtain ⟨r, ph, hrg, hr1, hrn, hph, rfl, rfl, hI⟩ := hrel
  obtain ⟨hbw, q, out, hq, hgo, hown, hlen, hob⟩ := hI.out
  obtain ⟨gO, cO, rfl, hg1, hg2, hg3, hg4⟩ := own_formS hown hob
  have hl1 : out.length + 1 ≤ r := by omega
  have hl2 : r ≤ out.length + 1 := by omega
  clear hlen
  have kw := blk hbw k0'.out
  obtain ⟨c0, c1⟩ := pc2 kw
  by_cases hlt : r < n
  ·have j1 : (r : Int) < (n : Int) := by omega
   have ⟨hI', hbw', hq', hgo', hown', kw', hob'⟩ := hyd7 hI hbw hq hgo hown kw hob
   clear hob kw hown hgo hq hbw hI
   go_wp2_with (fail)
   rename World => wo
   go_loopg [25, 11, 10] steps (fun g sx px vo wr => ∃ s : Nat, s + g = steps ∧ s ≤ steps ∧ sx = .int .i64 (s : Int) ∧ px = .int .i64 (ph : Int) ∧ vo = .slice (some ⟨gO, 0, none⟩) out.length cO ∧ Hid (Below wo.heap.size wo wr) ∧ Hid (∀ t, t < s → allowB L steps n r (q + (t : Int)) (sum : Int) = false))
   case atStart => exact ⟨0, by omega, Nat.zero_le _, rfl, rfl, rfl, Lib.hid (Below.refl _ _), Lib.hid fun t h => absurd h (Nat.not_lt_zero t)⟩
   case round =>
    obtain ⟨s, hsg, hss, rfl, rfl, rfl, hbv, hno⟩ := hrel
    have hbE := hbw'.out.trans (hbv.out.mono hbw'.out.size)
    have kv := blk hbv.out kw'.out
    have hownv := own_below hown'.out hbv.out
    clear c0 c1
    obtain ⟨c0, c1⟩ := pc2 kv
    by_cases hls : s < steps
    ·have k1 : (s : Int) < (steps : Int) := by omega
     obtain ⟨x, hx⟩ : ∃ x : Nat, (ph + s) % steps = x := ⟨_, rfl⟩
     have hx1 : x < steps := by rw [← hx]; exact Nat.mod_lt _ hs
     have hx2 : ((ph : Int) + (s : Int)) % (steps : Int) = (x : Int) := by rw [← hx]; push_cast; rfl
     have kal := kfr'.out wr r x (by omega) hx1 hbE
     have hmod : allowB L steps n r (x : Int) (sum : Int) = allowB L steps n r (q + (s : Int)) (sum : Int) := by rw [← hx]; exact allowB_add hq'.out
     rw [hmod] at kal
     obtain ⟨B, hB⟩ : ∃ B, allowB L steps n r (q + (s : Int)) (sum : Int) = B := ⟨_, rfl⟩
     rw [hB] at kal
     have k2 : ¬ (steps : Int) = 0 := by omega
     have k3 : 0 ≤ (ph : Int) + (s : Int) := by omega
     rw [← hx2] at kal
     have ⟨hno', hbv', hownv', hbE', kal', hmod', hB', kv'⟩ := hyd8 hno hbv hownv hbE kal hmod hB kv
     have ⟨hx', hx2'⟩ := hyd2 hx hx2
     clear hx2 hx kv hB hmod kal hbE hownv hbv hno
     cases B with
     | false =>
      go_wp2_with (fail)
      go_at_call 50
      refine kal'.out.mono ?_
      rintro e w5 ⟨rfl, hb5⟩
      have hbn := bel_set hbv'.out.out hb5
      have hn5 : ∀ t, t < s + 1 → allowB L steps n r (q + (t : Int)) (sum : Int) = false := fun t ht => by
       by_cases e : t = s
       ·subst e; exact hB'.out
       ·exact hno'.out.out t (by omega)
      have ⟨hb5', hbn', hn5'⟩ := hyd3 hb5 hbn hn5
      clear hn5 hbn hb5
      go_wp2
      go_roundg (steps - (s + 1))
      case rel => exact ⟨s + 1, by omega, by omega, by go_num, rfl, rfl, hbn', hn5'⟩
      case measure => omega
     | true =>
      have hsome := shiftAt_some hls hB'.out hno'.out.out
      have hgo2 : shiftsGo L steps n (sum : Int) (n - 1) 1 (first : Int) [] = shiftsGo L steps n (sum : Int) (n - (r + 1)) (r + 1) (q + (s : Int)) (out ++ [(s : Int)]) := by
       rw [hgo'.out, show n - r = (n - (r + 1)) + 1 by omega]
       conv => lhs; unfold shiftsGo
       rw [hsome]
      have hq2 : (x : Int) = (q + (s : Int)) % (steps : Int) := by rw [← hx2'.out, hq'.out, Int.emod_add_emod]
      have ⟨hsome', hgo2', hq2'⟩ := hyd3 hsome hgo2 hq2
      clear hq2 hgo2 hsome
      go_wp2_with (fail)
      go_at_call 50
      refine kal'.out.mono ?_
      rintro e w5 ⟨rfl, hb5⟩
      have hbE5 := hbE'.out.trans (hb5.mono hbE'.out.size)
      have hown5 := own_below hownv'.out hb5
      have hsz5 := hbE5.size
      have ⟨hb5', hbE5', hown5'⟩ := hyd3 hb5 hbE5 hown5
      clear hown5 hbE5 hb5
      go_wp2_with (first | (at_builtin; go_must (refine wpList_appI rfl _ _ 36 rfl W0.heap.size 3 elemInt _ out rfl (hown5'.out.alloc _) _ [(s : Int)] rfl (one_newI _ _ _) (by simp; omega) (by simp; omega) ?_)))
      intro v3 w3 h1 h2 h3 h4
      have hb3 : Below W0.heap.size W0 w3 := (hbE5'.out.alloc hsz5 _).trans h2
      have hob3 : v3.ownBlock ≠ none := fun e => h4 e
      have hI3 : ShI L steps n (first : Int) (sum : Int) W0 (r + 1) x v3 w3 := ⟨hb3, q + (s : Int), out ++ [(s : Int)], hq2'.out, hgo2'.out, by simpa using h1, by simp; omega, hob3⟩
      have ⟨h1', h2', h3', h4', hb3', hob3', hI3'⟩ := hyd7 h1 h2 h3 h4 hb3 hob3 hI3
      clear hI3 hob3 hb3 h4 h3 h2 h1
      go_wp2
      go_roundg (n - (r + 1))
      case rel => exact ⟨r + 1, x, by omega, by omega, by omega, hx1, by go_num, by rw [hx2'.out], hI3'⟩
      case measure => omega
    ·obtain rfl : s = steps := by omega
     have hnone := shiftAt_none hno.out
     have hres : listedL L s n (first : Int) (sum : Int) = none := by
      unfold listedL
      split
      ·rw [hgo'.out, show n - r = (n - (r + 1)) + 1 by omega]
       conv => lhs; unfold shiftsGo
       rw [hnone]
      ·rfl
     have hbR := bel_set hb0'.out hbE
     have ⟨hno', hbv', hownv', hbE', hnone', hres', kv', hbR'⟩ := hyd8 hno hbv hownv hbE hnone hres kv hbR
     clear hbR kv hres hnone hbE hownv hbv hno
     go_wp2
     try rw [Exit.noGoto_ret]
     go_ret2
     exact ⟨_, _, rfl, by rw [hres'.out]; rfl, hbR'.out, fun e => by cases e⟩
  ·obtain rfl : r = n := by omega
   obtain ⟨B, hB⟩ : ∃ B, allowB L steps r 0 (first : Int) (sum : Int) = B := ⟨_, rfl⟩
   have kf0 : ∀ W, Below W0.heap.size W0 W → Calls Tryz.prog 50 #[.agg #[.int .i64 (steps : Int), .slice A L.length c], .int .i64 0, .int .i64 (r : Int), .int .i64 (first : Int), .int .i64 (sum : Int)] W fun e w' => e = .returned (.bool B) ∧ Below W.heap.size W w' := fun W h => by
    have h := kfr'.out W 0 first (by omega) hf h
    rw [hB] at h
    exact h
   have hres : listedL L steps r (first : Int) (sum : Int) = if B = true then some (out ++ [((sum : Int) - (q - (first : Int))) % (steps : Int)]) else none := by
    unfold listedL
    rw [hB, hgo, Nat.sub_self]
    rfl
   have hy : ((first : Int) + (sum : Int) - (ph : Int)) % (steps : Int) = ((sum : Int) - (q - (first : Int))) % (steps : Int) := by
    rw [← last_shift (by omega), hq, Int.add_emod_right]
   have hS : ∀ W, Below W0.heap.size W0 W → W.cell? ⟨w.heap.size, 0, none⟩ = some (.int .i64 (steps : Int)) ∧ W.cell? ⟨w.heap.size, 1, none⟩ = some (.slice A L.length c) := fun W h => pc2 (blk h k0'.out)
   have hbq : Below W0.heap.size W0 wr.drew := hbw.drew
   have hsz := hbw.size
   have k2 : ¬ (steps : Int) = 0 := by omega
   have k3 : 0 ≤ (first : Int) + (sum : Int) - (ph : Int) + (steps : Int) := by omega
   have i9 : ¬ steps = 0 := by omega
   have i10 : (0 : Int) < (steps : Int) := by omega
   have ⟨hI', hgo', hown', kw', hob', kf0', hres', hy'⟩ := hyd8 hI hgo hown kw hob kf0 hres hy
   have ⟨hS', hB', hq'⟩ := hyd3 hS hB hq
   clear hq hB hS hy hres kf0 hob kw hown hgo hI
   go_wp2_with (fail)
   go_region_held3 (fun w' => w'.cell? ⟨w.heap.size, 0, none⟩ = some (.int .i64 (steps : Int)) ∧ w'.cell? ⟨w.heap.size, 1, none⟩ = some (.slice A L.length c)) (go_keep) (first | (go_at_call 50; with_reducible refine (kf0'.out _ (by first | exact hbq | exact hbq.alloc (by simp; omega) _ | exact hbq3)).mono ?_; rintro e w9 ⟨rfl, hb9⟩; have hbq9 : Below W0.heap.size W0 w9 := (by first | exact hbq.trans (hb9.mono (by simp; omega)) | exact (hbq.alloc (by simp; omega) _).trans (hb9.mono (by simp; omega)) | exact hbq3.trans (hb9.mono hbq3.size)); obtain ⟨t1, t2⟩ := hS'.out _ hbq9) | (refine step_appI rfl (.tmp 46) (.tmp 58) 36 (by rfl) W0.heap.size 3 elemInt _ out (by rfl) (by first | exact hown'.out.alloc _ | exact (own_below hown'.out hb9).alloc _ | exact own_below (hown'.out.alloc _) hb9) (.slice (some ⟨_, 0, none⟩) 1 1) [_] (by rfl) (by first | exact one_newD _ _ _ | exact one_newI _ _ _ | exact Arr.below (one_newD _ _ _) hb9 | exact Arr.below (one_newI _ _ _) hb9) (by simp; omega) (by first | (simp; omega) | exact Nat.le_trans hbq9.size (by simp) | exact hbq9.size) ?_; intro v3 w3 h1 h2 h3 h4; have hbq3 : Below W0.heap.size W0 w3 := (by first | exact (hbq.alloc (by simp; omega) _).trans h2 | exact (hbq9.alloc hbq9.size _).trans h2); obtain ⟨s1, s2⟩ := hS'.out _ hbq3; have h1' := Lib.hid h1; have h4' := Lib.hid h4; clear h1 h3 h4))
   all_goals
    have hyw : (IntKind.i64.wrap (IntKind.i64.wrap (IntKind.i64.wrap ((first : Int) + (sum : Int)) - (ph : Int)) + (steps : Int))).tmod (steps : Int) = ((sum : Int) - (q - (first : Int))) % (steps : Int) := by
     rw [IntWalk.i64_in ((first : Int) + (sum : Int)) (by omega), IntWalk.i64_in ((first : Int) + (sum : Int) - (ph : Int)) (by omega), IntWalk.i64_in ((first : Int) + (sum : Int) - (ph : Int) + (steps : Int)) (by omega), Int.tmod_eq_emod_of_nonneg (by omega), Int.add_emod_right]
     exact hy'.out
    have h1 := h1'.out
    have h4 := h4'.out
    rw [hyw] at h1
    have hob3 : v3.ownBlock ≠ none := fun e => by have := (h4.1 e).2; cases this
    obtain ⟨g3, c3, rfl, hg31, -, -, -⟩ := own_formS h1 hob3
    have hfin : Ints w9 (.slice (some ⟨g3, 0, none⟩) (out ++ [((sum : Int) - (q - (first : Int))) % (steps : Int)]).length c3) (out ++ [((sum : Int) - (q - (first : Int))) % (steps : Int)]) := (own_ints h1).below hb9
    have hbR := bel_set hb0'.out hbq9
    have hzg : w.heap.size ≤ g3 := by omega
    clear hyw h4 h1 h1' h4'
    have ⟨hfin', hbR', hb9', hbq9'⟩ := hyd4 hfin hbR hb9 hbq9
    clear hbq9 hb9 hbR hfin
    go_wp2
    try rw [Exit.noGoto_ret]
    go_ret2
    exact ⟨_, B, rfl, by rw [hres'.out]; cases B <;> rfl, hbR'.out, fun e => ⟨by rw [hres'.out, if_pos e]; exact hfin'.out, _, _, _, rfl, hzg⟩⟩

end Go.Proofs.YtphdalgaemefoaaGreat
namespace Go.Proofs.YtphdalgaemefoaaGreat
set_option maxRecDepth 100000
set_option maxHeartbeats 1000000
open Go.RowKit
set_option linter.unusedVariables false
set_option linter.unusedSimpArgs false
theorem pf_rd_Turned (v : Value) (f : List Int) (s : Nat) (w : World) (hv : Ints w v f) (hok : rosOk f = true) (hs : s < f.length) :
  Calls Tryz.prog 12 #[v, .int .i64 s] w fun e w' => ∃ v', e = .returned (.tuple #[v', .int .i64 0]) ∧ Below w.heap.size w w' ∧ w'.ownsRow w.heap.size 3 1 v' f.length ((movedL f (s : Int)).map vint) := by
 obtain ⟨h1, h2, -⟩ := rosOk_iff.1 hok
 have hc := pf_ros_Check v f w hv true hok
 have hm := pf_turned v f s w hv (by omega) (by omega) (by omega)
 rw [turnL_length, turn_moved f s (by omega)] at hm
 have ha : ∀ W, Calls Tryz.prog 34 #[.int .i64 s, .int .i64 f.length] W fun e w' => e = .returned (.int .i64 (s : Int)) ∧ W = w' := fun W => by
  have h := pf_ros_around s f.length W (by omega) (by omega) (by unfold Mid; omega)
  rwa [emod_small hs] at h
 obtain ⟨A, c, rfl, -⟩ := id hv
 have ⟨hc', hm', hv', hok', ha'⟩ := hyd5 hc hm hv hok ha
 clear ha hok hv hm hc
 go_enter Tryz.func12, Tryz.ntmps12
 go_wp2_with (first | (go_at_call 25; ((with_reducible refine (hc'.out).mono ?_); rintro e w' ⟨rfl, rfl⟩)) | (go_at_call 34; ((with_reducible refine (ha'.out _).mono ?_); rintro e w' ⟨rfl, rfl⟩)) | (go_at_call 33; ((with_reducible refine (hm'.out).mono ?_); rintro e w' ⟨v1, rfl, hb, ho⟩)))
 go_ret2
 exact ⟨_, rfl, hb, ho⟩
theorem Arr.rowB {W W' : World} {r v : Value} {xs : List Bool} {base e size m : Nat} {ys : List Value} (h : Arr vbool W v xs) (ho : W.ownsRow base e size r m ys) (hall : RowAll IsSl W r) (hg : W.grownBy W' r.ownBlock) : Arr vbool W' v xs := by
 obtain ⟨A, c, hv, h1, h2, hN, h3⟩ := h
 refine ⟨A, c, hv, h1, h2, hN, fun h0 => ?_⟩
 obtain ⟨b, off, ha, hlt, hc⟩ := h3 h0
 have hne : some b ≠ r.ownBlock := fun e => by
  rcases ho.2 with ⟨rfl, -⟩ | ⟨g, cap, cur, rfl, hbg, hgb, -⟩
  ·cases e
  ·have hbg2 : b = g := by simpa [Value.ownBlock] using e
   subst hbg2
   have h4 := hc 0 h0
   simp only [World.cell?, hgb] at h4
   have hm : Value.bool xs[0] ∈ cur.toList := by
    have h6 : cur[off + 0]? = some (Value.bool xs[0]) := by simpa using h4
    have h7 : cur.toList[off + 0]? = some (Value.bool xs[0]) := by simpa using h6
    exact List.mem_of_getElem? h7
   obtain ⟨_, _, _, hz⟩ := hall b cur _ rfl hgb _ hm
   cases hz
 exact ⟨b, off, ha, Nat.lt_of_lt_of_le hlt hg.size, fun j hj => (World.cell?_of_block (hg.block b hlt hne)).trans (hc j hj)⟩
def GrB (W : World) (base : Nat) (vo : Value) (L : List (List Bool)) : Prop := ∃ vs : List Value, vs.length = L.length ∧ W.ownsRow base 70 1 vo L.length vs ∧ RowAll IsSl W vo ∧ ∀ i (h1 : i < vs.length) (h2 : i < L.length), Arr vbool W vs[i] L[i]
theorem GrB.nil (W : World) (base : Nat) : GrB W base (.slice none 0 0) [] := ⟨[], rfl, World.ownsRow_nil _ _ _ _, RowAll.nil _ _, fun i h => absurd h (Nat.not_lt_zero i)⟩
theorem GrB.le {W W' : World} {base : Nat} {vo : Value} {L : List (List Bool)} (h : GrB W base vo L) (hb : Below W.heap.size W W') : GrB W' base vo L := by
 obtain ⟨vs, h1, h2, h3, h4⟩ := h
 exact ⟨vs, h1, own_below h2 hb, h3.same fun g hg => hb.block g (h2.lt g hg).2, fun i a b => (h4 i a b).below hb⟩
theorem GrB.form {W : World} {base : Nat} {vo : Value} {L : List (List Bool)} (h : GrB W base vo L) : ∃ A c, vo = .slice A L.length c := by
 obtain ⟨vs, h1, h2, -⟩ := h
 rcases h2.2 with ⟨rfl, e⟩ | ⟨g, cap, cur, rfl, _⟩
 ·exact ⟨none, 0, by rw [e]⟩
 ·exact ⟨_, cap, rfl⟩
theorem GrB.grid {W : World} {base : Nat} {vo : Value} {L : List (List Bool)} (h : GrB W base vo L) : GridB W vo L := by
 obtain ⟨vs, h1, h2, h3, h4⟩ := h
 have h0 := h2
 rcases h2.2 with ⟨rfl, hx⟩ | ⟨g, cap, cur, rfl, hbg, hg, hnc, hcm, hcs, htake⟩
 ·have hn : L = [] := List.eq_nil_of_length_eq_zero hx
  subst hn
  exact ⟨none, 0, rfl, Nat.le_refl _, Nat.zero_le _, fun _ => rfl, fun h => absurd h (Nat.lt_irrefl 0)⟩
 ·refine ⟨some ⟨g, 0, none⟩, cap, rfl, hnc, hcm, fun h => (by cases h), fun _ => ⟨g, 0, rfl, (gsl hg), fun j hj => ⟨vs[j]'(by omega), ?_, h4 j (by omega) hj⟩⟩⟩
  rw [Nat.zero_add, h0.cellAt j (by omega)]
  exact List.getElem?_eq_getElem (by omega)
theorem GrB.put {W : World} {base : Nat} {vo : Value} {L : List (List Bool)} (h : GrB W base vo L) {X k : Nat} {cs : Array Value} {t : TypeId} (hX : W.heap[X]? = some (.cells cs t)) (hlt : X < base) (ht : 70 ≠ t) (hne : ∀ c ∈ cs.toList, ∀ b, c ≠ .bool b) (u : Value) : GrB (W.setCell ⟨X, k, none⟩ u) base vo L := by
 obtain ⟨vs, h1, h2, h3, h4⟩ := h
 refine ⟨vs, h1, own_apart h2 hlt u, h3.same fun g hg => (Below.heap_setCell W ⟨X, k, none⟩ u g (by have := (h2.lt g hg).1; show g ≠ X; omega)), fun i a b => ?_⟩
 obtain ⟨A, c, hv, q1, q2, hN, q3⟩ := h4 i a b
 refine ⟨A, c, hv, q1, q2, hN, fun h0 => ?_⟩
 obtain ⟨bb, off, ha, hl, hc⟩ := q3 h0
 have hneb : bb ≠ X := by
  rintro rfl
  have h5 := hc 0 h0
  simp only [World.cell?, hX] at h5
  have h6 : cs[off + 0]? = some (Value.bool (L[i])[0]) := by simpa using h5
  have h7 : cs.toList[off + 0]? = some (Value.bool (L[i])[0]) := by simpa using h6
  exact hne _ (List.mem_of_getElem? h7) _ rfl
 exact ⟨bb, off, ha, by simpa [World.setCell] using hl, fun j hj => (set_apart hneb W k (off + j) u).trans (hc j hj)⟩
theorem rowInfoB : (Tryz.prog.info? 70).map (fun i => (i.zero, i.size, i.bytes)) = some (some (.slice none 0 0), 1, 24) := by kernel_rfl
theorem elemB9 : Elem1 Tryz.prog 70 4 (.bool false) 1 := ⟨Tryz.underlying70, by kernel_rfl, rfl⟩
theorem wpList_appRB (w : World) {ops : Array Oper} {rest : List Oper} {o : Oper} {a : Act} {Q : Exit → Act → World → Prop} (hgd : o.guard = none) (s x : Operand)
  (ho : o.op = .call { callee := .builtin .append, args := #[s, x], argTypes := #[67, 67] })
  (base : Nat) (v : Value) (L : List (List Bool)) (hs : a.eval s = v) (hown : GrB w base v L)
  (B : Nat) (A : Option Addr) (n c : Nat) (y : List Bool) (hx : a.eval x = .slice (some ⟨B, 0, none⟩) 1 1) (hc0 : w.cell? ⟨B, 0, none⟩ = some (.slice A n c)) (hy : Arr vbool w (.slice A n c) y) (hlen : L.length ≤ 1000000) (hbase : base ≤ w.heap.size)
  (h : ∀ v' w', GrB w' base v' (L ++ [y]) → (∀ n, n ≤ base → Below n w w') → wpList Tryz.prog ops Q rest (a.put o.dst v') w') : wpList Tryz.prog ops Q (o :: rest) a w := by
 obtain ⟨mi, hmi, hz0, hz1, hzb⟩ := info_parts rowInfoB
 obtain ⟨vs, h1, h2, h3, h4⟩ := hown
 refine wpList_append_ownC IsSl w hgd s x 67 ho base 70 mi _ 1 24 Tryz.underlying67 hmi hz0 hz1 hzb rfl (by decide) v L.length vs hs h2 ⟨B, 0, none⟩ 1 1 [.slice A n c] hx rfl (fun j u hu => ?_) (fun u hu => ?_) (by unfold maxLen; omega) (by omega) hbase (by decide) (fun u hu => ?_) (fun j hj => ?_) h3 ?_
 ·have hj : j < 1 := (List.getElem?_eq_some_iff.1 hu).1
  obtain rfl : j = 0 := by omega
  have hadd : (⟨B, 0, none⟩ : Addr).add 0 = ⟨B, 0, none⟩ := by unfold Addr.add; split <;> simp_all
  rw [hadd, hc0]; simpa using hu
 ·obtain rfl : u = _ := by simpa using hu
  rfl
 ·obtain rfl : u = _ := by simpa using hu
  exact ⟨_, _, _, rfl⟩
 ·obtain rfl : j = 0 := by omega
  exact ⟨none, 0, 0, rfl⟩
 ·intro v' w' g1 g2 g3 g4 g5
  refine h v' w' ⟨vs ++ [.slice A n c], by simp [h1], by rw [show (L ++ [y]).length = L.length + 1 by simp]; exact g1, g4, fun i a b => ?_⟩ (fun n hn => Below.grown (Below.refl n w) g2 (by omega) (fun k e => by have := (h2.lt k e).1; omega))
  by_cases hi : i < vs.length
  ·rw [List.getElem_append_left hi, List.getElem_append_left (by omega)]
   exact (h4 i hi (by omega)).rowB h2 h3 g2
  ·have hi2 : i = vs.length := by simp at a; omega
   subst hi2
   have e1 : (vs ++ [Value.slice A n c])[vs.length]'a = .slice A n c := by simp
   have e2 : (L ++ [y])[vs.length]'b = y := by rw [List.getElem_append_right (by omega)]; simp [h1]
   rw [e1, e2]
   exact hy.rowB h2 h3 g2
end Go.Proofs.YtphdalgaemefoaaGreat
namespace Go.Proofs.YtphdalgaemefoaaGreat
set_option maxRecDepth 100000
set_option maxHeartbeats 1000000
open Go.RowKit
set_option linter.unusedVariables false
set_option linter.unusedSimpArgs false
theorem within_both (s a b : Int) : within s (max a 0) (min b 10000) = (within s a b && within s 0 10000) := by
 rw [Bool.eq_iff_iff, Bool.and_eq_true, within_iff, within_iff, within_iff]
 omega
theorem pf_rd_Fits (v : Value) (p : Pic) (f : Fnd) (start : Int) (w : World) (hp : IsPic w v p) (hf : p.Fit) (hff : f.Fit) (hs : fit64 start) :
  Calls Tryz.prog 21 #[v, fndV f, .int .i64 start] w fun e w' => ∃ v', e = .returned (.tuple #[v', .int .i64 (fitsE p f start)]) ∧ Below w.heap.size w w' ∧ GridL w' v' (fitsV p f start) := by
 have hp9 := hp
 obtain ⟨vh, vr, rfl, hh, hr⟩ := hp
 obtain ⟨HA, hc, rfl, hhl⟩ := hh.slice
 obtain ⟨RA, rc, rfl, hrl⟩ := hr.slice
 unfold maxLen at hhl hrl
 obtain ⟨fh, ft, fa, fl, fi⟩ := f
 obtain ⟨f1, f2, f3, f4, f5⟩ := hff
 dsimp only at f1 f2 f3 f4 f5
 show Calls Tryz.prog 21 #[_, .agg #[.int .i64 fh, .int .i64 ft, .int .i64 fa, .int .i64 fl, .int .i64 fi], _] w _
 obtain ⟨W0, hW0, hb0, k0⟩ := newb w (.cells #[.slice HA p.hs.length hc, .int .i64 p.tl, .int .i64 p.th, .int .i64 p.al, .int .i64 p.ah, .slice RA p.rds.length rc] 25)
 obtain ⟨W1, hW1, hb1, k1⟩ := newb W0 (.cells #[.int .i64 fh, .int .i64 ft, .int .i64 fa, .int .i64 fl, .int .i64 fi] 35)
 have k01 := blk hb1 k0
 have hbw1 := bel_set hb0 hb1
 obtain ⟨c0, c1, c2, c3, c4, c5⟩ := pc6 k01
 have z0 : w.heap.size < W0.heap.size := by rw [← hW0]; simp
 have kck := pf_rd_Check _ p W1 (hp9.le hbw1) hf
 obtain ⟨E, hE⟩ : ∃ E, picE p = E := ⟨_, rfl⟩
 rw [hE] at kck
 have hEB : E = if picB p then 0 else 90 := by rw [← hE]; rfl
 have ⟨hp9', hh', hr', hf', hb0', hb1', k0', k1'⟩ := hyd8 hp9 hh hr hf hb0 hb1 k0 k1
 have ⟨k01', hbw1', kck', hE', hEB'⟩ := hyd5 k01 hbw1 kck hE hEB
 clear hEB hE kck hbw1 k01 k1 k0 hb1 hb0 hf hr hh hp9
 go_enter Tryz.func21, Tryz.ntmps21
 go_wp2_with (fail)
 clear hW0 hW1
 go_at_call 19
 refine kck'.out.mono ?_
 rintro e W2 ⟨rfl, hb2⟩
 have hbw2 := bel_set hbw1'.out hb2
 have k02 := blk hb2 k01'.out
 have k12 := blk hb2 k1'.out
 clear c0 c1 c2 c3 c4 c5
 obtain ⟨c0, c1, c2, c3, c4, c5⟩ := pc6 k02
 obtain ⟨d0, d1, d2, d3, d4⟩ := pc5 k12
 cases hB : picB p with
 | false =>
  have hE9 : E = 90 := by rw [hEB'.out, hB]; rfl
  have hres : fitsE p ⟨fh, ft, fa, fl, fi⟩ start = 90 := by unfold fitsE; rw [hB]; rfl
  have hv := fitsV_no (show fitsE p ⟨fh, ft, fa, fl, fi⟩ start ≠ 0 by rw [hres]; decide)
  subst hE9
  have ⟨hb2', hbw2', k02', k12', hB', hres', hv'⟩ := hyd7 hb2 hbw2 k02 k12 hB hres hv
  clear hv hres hB k12 k02 hbw2 hb2
  go_wp2
  exact bodyPost_ret (v := .tuple #[.slice none 0 0, .int .i64 90]) (by simp [results, Tryz.results21, go_sem]) rfl ⟨_, by rw [hres'.out], hbw2'.out, by rw [hv'.out]; exact GridL.nil _⟩
 | true =>
  have hE9 : E = 0 := by rw [hEB'.out, hB]; rfl
  subst hE9
  have hok := picB_iff.1 hB
  have hbad : argB p ⟨fh, ft, fa, fl, fi⟩ start = false → fitsE p ⟨fh, ft, fa, fl, fi⟩ start = 2 := fun h => by unfold fitsE; rw [hB, h]; rfl
  have hbadv : argB p ⟨fh, ft, fa, fl, fi⟩ start = false → fitsV p ⟨fh, ft, fa, fl, fi⟩ start = [] := fun h => fitsV_no (by rw [hbad h]; decide)
  have w1 := fun W => pf_within_read fh 0 ((p.hs.length : Int) - 1) W
  have w2 := fun W => pf_within_read ft p.tl p.th W
  have w3 := fun W => pf_within_read fa p.al p.ah W
  have w4 := fun W => pf_within_read start (max fl 0) (min fi 10000) W
  have harg := argB_eq p ⟨fh, ft, fa, fl, fi⟩ start
  dsimp only at harg
  rw [← within_both] at harg
  obtain ⟨B1, hB1⟩ : ∃ B, within fh 0 ((p.hs.length : Int) - 1) = B := ⟨_, rfl⟩
  obtain ⟨B2, hB2⟩ : ∃ B, within ft p.tl p.th = B := ⟨_, rfl⟩
  obtain ⟨B3, hB3⟩ : ∃ B, within fa p.al p.ah = B := ⟨_, rfl⟩
  obtain ⟨B4, hB4⟩ : ∃ B, within start (max fl 0) (min fi 10000) = B := ⟨_, rfl⟩
  rw [hB4] at w4
  rw [hB1] at w1
  rw [hB2] at w2
  rw [hB3] at w3
  rw [hB1, hB2, hB3, hB4] at harg
  have hlen1 : (1 : Int) ≤ (p.hs.length : Int) := by have := hok.heads.1; omega
  have ⟨hb2', hbw2', k02', k12', hB', hok', hbad', hbadv'⟩ := hyd8 hb2 hbw2 k02 k12 hB hok hbad hbadv
  have ⟨harg', hB1', hB2', hB3', hB4', w1', w2', w3'⟩ := hyd8 harg hB1 hB2 hB3 hB4 w1 w2 w3
  have w4' := hyd1 w4
  clear w4 w3 w2 w1 hB4 hB3 hB2 hB1 harg hbadv hbad hok hB k12 k02 hbw2 hb2
  by_cases hall : (B1 && (B2 && (B3 && B4))) = true
  ·simp only [Bool.and_eq_true] at hall
   obtain ⟨rfl, rfl, rfl, rfl⟩ := hall
   have harg2 : argB p ⟨fh, ft, fa, fl, fi⟩ start = true := harg'.out
   obtain ⟨r1, r2⟩ : 0 ≤ fh ∧ fh ≤ (p.hs.length : Int) - 1 := within_iff.1 hB1'.out
   obtain ⟨r3, r4⟩ : p.tl ≤ ft ∧ ft ≤ p.th := within_iff.1 hB2'.out
   obtain ⟨r5, r6⟩ : p.al ≤ fa ∧ fa ≤ p.ah := within_iff.1 hB3'.out
   obtain ⟨r7, r8⟩ : 0 ≤ start ∧ start ≤ 10000 := by have h := within_iff.1 hB4'.out; omega
   obtain ⟨m, rfl⟩ : ∃ m : Nat, fh = (m : Int) := ⟨fh.toNat, by omega⟩
   have hm : m < p.hs.length := by omega
   have htl := hok'.out.tl
   have hth := hok'.out.th
   have hal := hok'.out.al
   have hah := hok'.out.ah
   have hst := hok'.out.steps
   have hhd := hok'.out.head _ (List.getElem_mem hm)
   have hro : ∀ r ∈ p.rds, RdOk p.steps r := fun r h => hok'.out.rd r h
   obtain ⟨lift, hlift⟩ : ∃ l, liftL p.hs[m].ros p.hs[m].rub = l := ⟨_, rfl⟩
   have hlp : p.lift m = lift := by unfold Pic.lift; rw [List.getD_eq_getElem?_getD, List.getElem?_eq_getElem hm]; exact hlift
   have hll : lift.length = p.steps := by rw [← hlift, liftL_length]; exact hhd.1
   have hrub : rubOk p.hs[m].rub p.hs[m].ros.length = true := by rw [hhd.1]; exact hhd.2.2
   have hlo : rosOk lift = true := by rw [← hlift]; exact lift_ok hhd.2.1 hrub
   have kmt := pf_rd_mounted _ p m ft W2 (hp9'.out.le hbw2'.out) hok'.out.toM hm ⟨by omega, by omega⟩
   rw [hlp] at kmt
   have hmZ : ((m : Int)).toNat = m := Int.toNat_natCast m
   have ⟨harg2', hhd', hro', hlift', hlp', hll', hrub', hlo'⟩ := hyd8 harg2 hhd hro hlift hlp hll hrub hlo
   have ⟨kmt', hmZ'⟩ := hyd2 kmt hmZ
   clear hmZ kmt hlo hrub hll hlp hlift hro hhd harg2
   go_wp2_with (first | (go_at_call 48; ((with_reducible refine (w1'.out _).mono ?_); rintro e w' ⟨rfl, rfl⟩)) | (go_at_call 48; ((with_reducible refine (w2'.out _).mono ?_); rintro e w' ⟨rfl, rfl⟩)) | (go_at_call 48; ((with_reducible refine (w3'.out _).mono ?_); rintro e w' ⟨rfl, rfl⟩)) | (go_at_call 48; ((with_reducible refine (w4'.out _).mono ?_); rintro e w' ⟨rfl, rfl⟩)))
   go_at_call 49
   refine kmt'.out.mono ?_
   rintro e W3 ⟨B, n, D, bl, Z, rfl, hb3, hn60, hBs, -⟩
   obtain ⟨W4, hW4, hb4, k4⟩ := newb W3 (.cells #[.int .i64 (m : Int), .int .i64 ft, .map (some B)] 97)
   have hB4s := hBs.le hb4
   have hb24 := bel_set hb3 hb4
   have hbw4 := bel_set hbw2'.out hb24
   have k04 := blk hb24 k02'.out
   have k14 := blk hb24 k12'.out
   clear c0 c1 c2 c3 c4 c5 d0 d1 d2 d3 d4
   obtain ⟨b0, b1, b2⟩ := pc3 k4
   have hb44 : Below W4.heap.size W4 W4 := Below.refl _ _
   have ⟨hb3', hBs', hb4', k4', hB4s', hb24', hbw4', k04'⟩ := hyd8 hb3 hBs hb4 k4 hB4s hb24 hbw4 k04
   have ⟨k14', hb44'⟩ := hyd2 k14 hb44
   clear hb44 k14 k04 hbw4 hb24 hB4s k4 hb4 hBs hb3
   go_wp2_with (first | (at_range; refine wpList_range_own _ rfl _ 95 rfl 3 98 keyed9 Tryz.underlying95 hdR B n D rfl hB4s'.out.own ?_; intro w5 hrg0 hg0 hs0) | fail)
   go_frame
   have hb45 : Below W4.heap.size W4 w5 := Below.grown (Below.refl _ _) hg0 (Nat.le_refl _) (fun k e => by cases e)
   have hI0 : ∃ left cnt, w5.ranges Tryz.prog 3 hdR B W4.heap.size n D left cnt ∧ Below W4.heap.size W4 w5 ∧ (∀ c, (Lit.int .i64 c).wf = true → hasC p.rds c = true → left (.int .i64 c) = false → c ≤ 0) ∧ ((0 : Int) = 0 ∨ hasC p.rds 0 = true) := ⟨_, _, hrg0, hb45, fun c hw hcc hl => (by rw [hB4s'.out.has c hw, hcc] at hl; cases hl), .inl rfl⟩
   clear hrg0 hb45 b0 b1 b2
   have ⟨hI0', hg0'⟩ := hyd2 hI0 hg0
   clear hg0 hI0
   go_loopw [10] (fun mx wr => ∃ mv : Int, 0 ≤ mv ∧ mv ≤ 11 ∧ mx = .int .i64 mv ∧ Hid (∃ left cnt, wr.ranges Tryz.prog 3 hdR B W4.heap.size n D left cnt ∧ Below W4.heap.size W4 wr ∧ (∀ c, (Lit.int .i64 c).wf = true → hasC p.rds c = true → left (.int .i64 c) = false → c ≤ mv) ∧ (mv = 0 ∨ hasC p.rds mv = true))) (fun _ wr => wr.rangeLeft B W4.heap.size)
   case atStart => exact ⟨0, by omega, by omega, rfl, hI0'⟩
   case round =>
    obtain ⟨mv, hm0, hm11, rfl, hI⟩ := hrel
    obtain ⟨left, cnt, hrg, hbw, hle, hmv⟩ := hI.out
    go_wp2_with (first | (at_next; refine wpList_nextHd rfl _ rfl rfl hrg ?_ ?_) | fail)
    ·intro hc0 hl0
     have hml := lastC_of (fun r h => (hok'.out.rd r h).1) hm0 (fun c hcc => hle c (hB4s'.out.wf c hcc) hcc (hl0 _)) hmv
     obtain ⟨mN, rfl⟩ : ∃ k : Nat, mv = (k : Int) := ⟨mv.toNat, by omega⟩
     have k0w := blk hbw k04'.out
     have k1w := blk hbw k14'.out
     have kmw := blk hbw k4'.out
     have hBw := hB4s'.out.le hbw
     have hbww := bel_set hbw4'.out hbw
     have hpw := hp9'.out.le hbww
     clear hle hmv hl0
     rename World => wr0
     have ⟨hI', hrg', hbw', hml', k0w', k1w', kmw', hBw'⟩ := hyd8 hI hrg hbw hml k0w k1w kmw hBw
     have ⟨hbww', hpw'⟩ := hyd2 hbww hpw
     clear hpw hbww hBw kmw k1w k0w hml hbw hrg hI
     go_wp2_with (first | (at_make; go_must (refine wpList_makeX _ rfl _ _ 64 rfl 36 _ 1 24 Tryz.underlying64 rowInfo (by decide) (mN + 1) rfl rfl (by omega) ?_)) | fail)
     intro w7 hk7 hb7
     have hrs : RowsTo w7 wr0.heap.size (mN + 1) 0 (fun i : Nat => phasesAt p.rds lift ft fa start (i : Int)) _ := RowsTo.start (by rw [hk7.out, madeNil])
     have hI7 : ∃ vs, Below wr0.heap.size wr0 w7 ∧ RowsTo w7 wr0.heap.size (mN + 1) 0 (fun i : Nat => phasesAt p.rds lift ft fa start (i : Int)) vs := ⟨_, hb7, hrs⟩
     have ⟨hk7', hb7', hrs', hI7'⟩ := hyd4 hk7 hb7 hrs hI7
     clear hI7 hrs hb7 hk7
     go_wp2_with (fail)
     go_loopw [82] (fun cx wv => ∃ c : Nat, c ≤ mN + 1 ∧ cx = .int .i64 (c : Int) ∧ Hid (∃ vs, Below wr0.heap.size wr0 wv ∧ RowsTo wv wr0.heap.size (mN + 1) c (fun i : Nat => phasesAt p.rds lift ft fa start (i : Int)) vs) ∧ Hid (∀ k : Nat, k < c → phasesAt p.rds lift ft fa start (k : Int) ≠ [])) (fun cx _ => mN + 1 - (intOf cx).toNat)
     case atStart => exact ⟨0, Nat.zero_le _, rfl, hI7', Lib.hid fun k h => absurd h (Nat.not_lt_zero k)⟩
     case round =>
      rename World => wv
      obtain ⟨c, hcN, rfl, hJ, hne⟩ := hrel
      obtain ⟨vs, hbrv, hrows⟩ := hJ.out
      by_cases hcl : c < mN + 1
      ·have k0v := blk hbrv k0w'.out
       have k1v := blk hbrv k1w'.out
       have kmv := blk hbrv kmw'.out
       have hBv := hBw'.out.le hbrv
       have hpv := hpw'.out.le hbrv
       have hcv2 : c < vs.length := by rw [hrows.len]; exact hcl
       have hgv : wr0.heap.size < wv.heap.size := gsl hrows.blk
       have hne1 : W0.heap.size ≠ wr0.heap.size := Nat.ne_of_lt (gsl k1w'.out)
       have hne2 : W3.heap.size ≠ wr0.heap.size := Nat.ne_of_lt (gsl kmw'.out)
       obtain ⟨c0, c1, c2, c3, c4, c5⟩ := pc6 k0v
       obtain ⟨b0, b1, b2⟩ := pc3 kmv
       obtain ⟨vh9, vr9, hve, hhv, hrv⟩ := hpv
       injection hve with hve
       injection hve with hve
       injection hve with e1 hve
       subst e1
       clear hve
       obtain ⟨bh, oh, ch, vr0, vb0, heq, hbl, g0, g1, i0, i1⟩ := hhv.at (j := 0) (by omega)
       injection heq with e1 e2 e3
       subst e1 e3
       clear e2 g1 i1
       rw [Nat.zero_mul, Nat.add_zero] at g0
       obtain ⟨A0, cc0, rfl, -⟩ := id i0
       rw [← steps_eq (p := p) (by omega)] at g0
       have hpos : (0 : Int) < (p.hs.length : Int) := by omega
       have hc11 : (c : Int) ≤ 11 := by omega
       have j1 : (c : Int) < (mN : Int) + 1 := by omega
       have j2 : (0 : Int) ≤ (c : Int) := by omega
       have hwf : (Lit.int .i64 (c : Int)).wf = true := WalkArith.wf_i64 (by omega)
       have m1 := mul_in j2 hc11 (b := fa) (B := 1000) (by omega) (by omega) (by decide)
       have hI9 : ∃ vl, RowOn wv wv wr0.heap.size c vs vl (phasesTo p.rds lift ft fa start (c : Int) 0) := ⟨_, hrows.on hcl⟩
       obtain ⟨RH, hRH⟩ : ∃ b, hasC p.rds (c : Int) = b := ⟨_, rfl⟩
       cases RH with
       | true =>
        have hat := hBv.get (c : Int) hRH
        have hhs := hBv.has (c : Int) hwf
        rw [hRH] at hhs
        have ⟨hJ', hbrv', hrows', hne', k0v', k1v', kmv', hBv'⟩ := hyd8 hJ hbrv hrows hne k0v k1v kmv hBv
        have ⟨hrv', hhv', i0', hI9', hRH', hat', hhs'⟩ := hyd7 hrv hhv i0 hI9 hRH hat hhs
        clear hhs hat hRH hI9 i0 hhv hrv hBv kmv k1v k0v hne hrows hbrv hJ
        go_wp2_with (first | (at_lookup; refine wpList_okHas rfl (.tmp 87) (.tmp 88) rfl rfl hBv'.out.own (c : Int) rfl hwf _ _ _ hat'.out hhs'.out ?_) | fail)
        clear c0 c1 c2 c3 c4 c5 b0 b1 b2 g0
        go_loopw [98] (fun px wq => ∃ ph : Nat, ph ≤ p.steps ∧ px = .int .i64 (ph : Int) ∧ Hid (∃ vl, RowOn wv wq wr0.heap.size c vs vl (phasesTo p.rds lift ft fa start (c : Int) ph))) (fun px _ => p.steps - (intOf px).toNat)
        case atStart => exact ⟨0, Nat.zero_le _, rfl, hI9'⟩
        case round =>
         obtain ⟨ph, hph, rfl, hK⟩ := hrel
         obtain ⟨vl, hon⟩ := hK.out
         by_cases hlt : ph < p.steps
         ·have hpl := phasesTo_length p.rds lift ft fa start (c : Int) ph
          have hsucc := phasesTo_succ p.rds lift ft fa start (c : Int) ph
          have hfe := fitP_eq (rds := p.rds) (lift := lift) (throw := ft) (adv := fa) (start := start) (c := (c : Int)) (ph := ph) ⟨r7, r8⟩ ⟨by omega, by omega⟩ ⟨by omega, by omega⟩
          rw [← hfe] at hsucc
          unfold fitP at hsucc
          rw [if_pos hRH'.out] at hsucc
          have kfq := (hon.kept W0.heap.size (gsl k1v'.out) hne1).trans k1v'.out
          obtain ⟨d0, d1, d2, d3, d4⟩ := pc5 kfq
          have kbv := (hBv'.out.blk (c : Int) hRH'.out).2
          have hneb := span_ne kbv hrows'.out.blk (by decide)
          have kbq := (hon.kept _ (gsl kbv) hneb).trans kbv
          obtain ⟨y0, y1⟩ := row_cell kbq (j := ph) (by rw [rowS_length]; exact hlt)
          have hrg9 : (rowS p.rds lift ft p.steps (c : Int))[ph]'(by rw [rowS_length]; exact hlt) = baseS p.rds lift ft (c : Int) ph := by simp [rowS]
          rw [hrg9] at y0 y1
          obtain ⟨O, hO⟩ : ∃ O, baseS p.rds lift ft (c : Int) ph = O := ⟨_, rfl⟩
          rw [hO] at y0 y1 hsucc
          obtain ⟨o1, o2⟩ := O
          dsimp only at y0 y1 hsucc
          have kw := fun W => pf_within_read (start + (c : Int) * fa) o1 o2 W
          obtain ⟨Bw, hBw⟩ : ∃ b, within (start + (c : Int) * fa) o1 o2 = b := ⟨_, rfl⟩
          rw [hBw] at kw hsucc
          have j3 : (ph : Int) < (p.steps : Int) := by omega
          have j4 : (0 : Int) ≤ (ph : Int) := by omega
          have ⟨hon', hK', hpl', hsucc', hfe', kfq', kbv', hneb'⟩ := hyd8 hon hK hpl hsucc hfe kfq kbv hneb
          have ⟨kbq', hrg9', hO', kw', hBw'⟩ := hyd5 kbq hrg9 hO kw hBw
          clear hBw kw hO hrg9 kbq hneb kbv kfq hfe hsucc hpl hK hon
          go_wp2_with (fail)
          go_quiet ((go_at_call 48; exact quiet_same' (kw'.out _)))
          have hoq : RowOn wv (wr.drewN nq) wr0.heap.size c vs vl (phasesTo p.rds lift ft fa start (c : Int) ph) := ⟨hon'.out.blk, hon'.out.own, hon'.out.size, hon'.out.kept, below_drewN' hon'.out.below nq⟩
          clear d0 d1 d2 d3 d4 y0 y1
          generalize wr.drewN nq = wq2 at hoq ⊢
          have cgq := hoq.cell hcv2
          obtain ⟨Al, cl, rfl⟩ := slice_formR hoq.own
          have fgq := pfrz hoq.blk c
          cases Bw with
          | true =>
           have hoq' := hyd1 hoq
           clear hoq
           go_wp2_with (first | (at_builtin; go_must (refine wpList_appI rfl _ _ 36 rfl wv.heap.size 3 elemInt _ (phasesTo p.rds lift ft fa start (c : Int) ph) rfl (hoq'.out.own.alloc _) _ [(ph : Int)] rfl (one_newI _ _ _) (by have := hpl'.out; simp; omega) (Nat.le_trans hoq'.out.size (by simp)) ?_)))
           intro v3 w3 h1 h2 h3 _
           have hb3q : Below wv.heap.size wq2 w3 := ((Below.refl _ _).alloc hoq'.out.size _).trans h2
           have hox := hoq'.out.push (x := (ph : Int)) (v2 := v3) hgv (by simpa using h1) hb3q
           have hsx : IsSl v3 := by obtain ⟨A9, c9, e9⟩ := slice_formR h1; exact ⟨_, _, _, e9⟩
           have hI3 : ∃ vl, RowOn wv (w3.setCell ⟨wr0.heap.size, c, none⟩ v3) wr0.heap.size c vs vl (phasesTo p.rds lift ft fa start (c : Int) (ph + 1)) := ⟨v3, by rw [hsucc'.out]; exact hox⟩
           have kg3 := (hb3q.block wr0.heap.size hgv).trans hoq'.out.blk
           have fg3 := pfrz kg3 c
           have cg3 : w3.cell? ⟨wr0.heap.size, c, none⟩ = some (.slice Al (phasesTo p.rds lift ft fa start (c : Int) ph).length cl) := by simp only [World.cell?, kg3]; simp [hcv2]
           obtain ⟨A9, c9, rfl⟩ := slice_formR h1
           have ⟨h1', h2', h3', hb3q', hox', hsx', hI3', kg3'⟩ := hyd8 h1 h2 h3 hb3q hox hsx hI3 kg3
           clear kg3 hI3 hsx hox hb3q h3 h2 h1
           go_wp2
           go_roundw
           case rel => exact ⟨ph + 1, by omega, by go_num, hI3'⟩
           case measure => simp [intOf]; omega
          | false =>
           have hI3 : ∃ vl, RowOn wv wq2 wr0.heap.size c vs vl (phasesTo p.rds lift ft fa start (c : Int) (ph + 1)) := ⟨_, by rw [hsucc'.out]; simpa using hoq⟩
           have ⟨hoq', hI3'⟩ := hyd2 hoq hI3
           clear hI3 hoq
           go_wp2
           go_roundw
           case rel => exact ⟨ph + 1, by omega, by go_num, hI3'⟩
           case measure => simp [intOf]; omega
         ·obtain rfl : ph = p.steps := by omega
          have hpa : phasesTo p.rds lift ft fa start (c : Int) p.steps = phasesAt p.rds lift ft fa start (c : Int) := by unfold phasesTo phasesAt; rw [hll'.out]
          have cgq := hon.cell hcv2
          obtain ⟨Al, cl, rfl⟩ := slice_formR hon.own
          have hbE := bel_set hbww'.out (hbrv'.out.trans hon.below)
          have hTn : c ≤ (lastC p.rds).toNat := by have h := hml'.out; omega
          by_cases hz : (phasesTo p.rds lift ft fa start (c : Int) p.steps).length = 0
          ·have h6 : fitsE p ⟨(m : Int), ft, fa, fl, fi⟩ start = 6 := fits_bad hB'.out harg2'.out hTn (by
            show phasesAt p.rds (p.lift (m : Int).toNat) ft fa start (c : Int) = []
            rw [Int.toNat_natCast, hlp'.out, ← hpa]
            exact List.eq_nil_of_length_eq_zero hz)
           have hv6 := fitsV_no (show fitsE p ⟨(m : Int), ft, fa, fl, fi⟩ start ≠ 0 by rw [h6]; decide)
           have ⟨hon', hK', hpa', hbE', h6', hv6'⟩ := hyd6 hon hK hpa hbE h6 hv6
           clear hv6 h6 hbE hpa hK hon
           go_wp2
           exact bodyPost_ret (v := .tuple #[.slice none 0 0, .int .i64 6]) (by simp [results, Tryz.results21, go_sem]) rfl ⟨_, by rw [h6'.out], hbE'.out, by rw [hv6'.out]; exact GridL.nil _⟩
          ·have hz2 : ¬ ((phasesTo p.rds lift ft fa start (c : Int) p.steps).length : Int) = 0 := by omega
           have hnx := hrows'.out.next (by omega) hon hpa.symm ⟨_, _, _, rfl⟩
           have hb0v := hbrv'.out.trans hon.below
           have hI4 : ∃ vs, Below wr0.heap.size wr0 wr ∧ RowsTo wr wr0.heap.size (mN + 1) (c + 1) (fun i : Nat => phasesAt p.rds lift ft fa start (i : Int)) vs := ⟨_, hb0v, hnx⟩
           have hne4 : ∀ k : Nat, k < c + 1 → phasesAt p.rds lift ft fa start (k : Int) ≠ [] := fun k hk => by
            by_cases e : k = c
            ·subst e; rw [← hpa]; intro h0; rw [h0] at hz; exact hz rfl
            ·exact hne'.out k (by omega)
           have ⟨hon', hK', hpa', hbE', hnx', hb0v', hI4', hne4'⟩ := hyd8 hon hK hpa hbE hnx hb0v hI4 hne4
           clear hne4 hI4 hb0v hnx hbE hpa hK hon
           go_wp2
           go_roundw
           case rel => exact ⟨c + 1, by omega, by go_num, hI4', hne4'⟩
           case measure => simp [intOf]; omega
       | false =>
        have hhs := hBv.has (c : Int) hwf
        rw [hRH] at hhs
        have ⟨hJ', hbrv', hrows', hne', k0v', k1v', kmv', hBv'⟩ := hyd8 hJ hbrv hrows hne k0v k1v kmv hBv
        have ⟨hrv', hhv', i0', hI9', hRH', hhs'⟩ := hyd6 hrv hhv i0 hI9 hRH hhs
        clear hhs hRH hI9 i0 hhv hrv hBv kmv k1v k0v hne hrows hbrv hJ
        go_wp2_with (first | (at_lookup; refine wpList_okNot rfl (.tmp 87) (.tmp 88) rfl rfl hBv'.out.own (c : Int) rfl hwf hhs'.out ?_) | fail)
        clear c0 c1 c2 c3 c4 c5 b0 b1 b2 g0
        go_loopw [98] (fun px wq => ∃ ph : Nat, ph ≤ p.steps ∧ px = .int .i64 (ph : Int) ∧ Hid (∃ vl, RowOn wv wq wr0.heap.size c vs vl (phasesTo p.rds lift ft fa start (c : Int) ph))) (fun px _ => p.steps - (intOf px).toNat)
        case atStart => exact ⟨0, Nat.zero_le _, rfl, hI9'⟩
        case round =>
         obtain ⟨ph, hph, rfl, hK⟩ := hrel
         obtain ⟨vl, hon⟩ := hK.out
         by_cases hlt : ph < p.steps
         ·have hpl := phasesTo_length p.rds lift ft fa start (c : Int) ph
          have hsucc := phasesTo_succ p.rds lift ft fa start (c : Int) ph
          have hfe := fitP_eq (rds := p.rds) (lift := lift) (throw := ft) (adv := fa) (start := start) (c := (c : Int)) (ph := ph) ⟨r7, r8⟩ ⟨by omega, by omega⟩ ⟨by omega, by omega⟩
          rw [← hfe] at hsucc
          unfold fitP at hsucc
          rw [hRH'.out] at hsucc
          simp only [Bool.false_eq_true, if_false, if_true] at hsucc
          have kfq := (hon.kept W0.heap.size (gsl k1v'.out) hne1).trans k1v'.out
          obtain ⟨d0, d1, d2, d3, d4⟩ := pc5 kfq
          have j3 : (ph : Int) < (p.steps : Int) := by omega
          have j4 : (0 : Int) ≤ (ph : Int) := by omega
          have ⟨hon', hK', hpl', hsucc', hfe', kfq'⟩ := hyd6 hon hK hpl hsucc hfe kfq
          clear kfq hfe hsucc hpl hK hon
          go_wp2_with (fail)
          go_quiet (fail)
          have hoq : RowOn wv (wr.drewN nq) wr0.heap.size c vs vl (phasesTo p.rds lift ft fa start (c : Int) ph) := ⟨hon'.out.blk, hon'.out.own, hon'.out.size, hon'.out.kept, below_drewN' hon'.out.below nq⟩
          clear d0 d1 d2 d3 d4
          generalize wr.drewN nq = wq2 at hoq ⊢
          have cgq := hoq.cell hcv2
          obtain ⟨Al, cl, rfl⟩ := slice_formR hoq.own
          have fgq := pfrz hoq.blk c
          have hoq' := hyd1 hoq
          clear hoq
          go_wp2_with (first | (at_builtin; go_must (refine wpList_appI rfl _ _ 36 rfl wv.heap.size 3 elemInt _ (phasesTo p.rds lift ft fa start (c : Int) ph) rfl (hoq'.out.own.alloc _) _ [(ph : Int)] rfl (one_newI _ _ _) (by have := hpl'.out; simp; omega) (Nat.le_trans hoq'.out.size (by simp)) ?_)))
          intro v3 w3 h1 h2 h3 _
          have hb3q : Below wv.heap.size wq2 w3 := ((Below.refl _ _).alloc hoq'.out.size _).trans h2
          have hox := hoq'.out.push (x := (ph : Int)) (v2 := v3) hgv (by simpa using h1) hb3q
          have hsx : IsSl v3 := by obtain ⟨A9, c9, e9⟩ := slice_formR h1; exact ⟨_, _, _, e9⟩
          have hI3 : ∃ vl, RowOn wv (w3.setCell ⟨wr0.heap.size, c, none⟩ v3) wr0.heap.size c vs vl (phasesTo p.rds lift ft fa start (c : Int) (ph + 1)) := ⟨v3, by rw [hsucc'.out]; exact hox⟩
          have kg3 := (hb3q.block wr0.heap.size hgv).trans hoq'.out.blk
          have fg3 := pfrz kg3 c
          have cg3 : w3.cell? ⟨wr0.heap.size, c, none⟩ = some (.slice Al (phasesTo p.rds lift ft fa start (c : Int) ph).length cl) := by simp only [World.cell?, kg3]; simp [hcv2]
          obtain ⟨A9, c9, rfl⟩ := slice_formR h1
          have ⟨h1', h2', h3', hb3q', hox', hsx', hI3', kg3'⟩ := hyd8 h1 h2 h3 hb3q hox hsx hI3 kg3
          clear kg3 hI3 hsx hox hb3q h3 h2 h1
          go_wp2
          go_roundw
          case rel => exact ⟨ph + 1, by omega, by go_num, hI3'⟩
          case measure => simp [intOf]; omega
         ·obtain rfl : ph = p.steps := by omega
          have hpa : phasesTo p.rds lift ft fa start (c : Int) p.steps = phasesAt p.rds lift ft fa start (c : Int) := by unfold phasesTo phasesAt; rw [hll'.out]
          have cgq := hon.cell hcv2
          obtain ⟨Al, cl, rfl⟩ := slice_formR hon.own
          have hbE := bel_set hbww'.out (hbrv'.out.trans hon.below)
          have hTn : c ≤ (lastC p.rds).toNat := by have h := hml'.out; omega
          by_cases hz : (phasesTo p.rds lift ft fa start (c : Int) p.steps).length = 0
          ·have h6 : fitsE p ⟨(m : Int), ft, fa, fl, fi⟩ start = 6 := fits_bad hB'.out harg2'.out hTn (by
            show phasesAt p.rds (p.lift (m : Int).toNat) ft fa start (c : Int) = []
            rw [Int.toNat_natCast, hlp'.out, ← hpa]
            exact List.eq_nil_of_length_eq_zero hz)
           have hv6 := fitsV_no (show fitsE p ⟨(m : Int), ft, fa, fl, fi⟩ start ≠ 0 by rw [h6]; decide)
           have ⟨hon', hK', hpa', hbE', h6', hv6'⟩ := hyd6 hon hK hpa hbE h6 hv6
           clear hv6 h6 hbE hpa hK hon
           go_wp2
           exact bodyPost_ret (v := .tuple #[.slice none 0 0, .int .i64 6]) (by simp [results, Tryz.results21, go_sem]) rfl ⟨_, by rw [h6'.out], hbE'.out, by rw [hv6'.out]; exact GridL.nil _⟩
          ·have hz2 : ¬ ((phasesTo p.rds lift ft fa start (c : Int) p.steps).length : Int) = 0 := by omega
           have hnx := hrows'.out.next (by omega) hon hpa.symm ⟨_, _, _, rfl⟩
           have hb0v := hbrv'.out.trans hon.below
           have hI4 : ∃ vs, Below wr0.heap.size wr0 wr ∧ RowsTo wr wr0.heap.size (mN + 1) (c + 1) (fun i : Nat => phasesAt p.rds lift ft fa start (i : Int)) vs := ⟨_, hb0v, hnx⟩
           have hne4 : ∀ k : Nat, k < c + 1 → phasesAt p.rds lift ft fa start (k : Int) ≠ [] := fun k hk => by
            by_cases e : k = c
            ·subst e; rw [← hpa]; intro h0; rw [h0] at hz; exact hz rfl
            ·exact hne'.out k (by omega)
           have ⟨hon', hK', hpa', hbE', hnx', hb0v', hI4', hne4'⟩ := hyd8 hon hK hpa hbE hnx hb0v hI4 hne4
           clear hne4 hI4 hb0v hnx hbE hpa hK hon
           go_wp2
           go_roundw
           case rel => exact ⟨c + 1, by omega, by go_num, hI4', hne4'⟩
           case measure => simp [intOf]; omega
      ·obtain rfl : c = mN + 1 := by omega
       obtain ⟨hE0, hV0⟩ := fits_good (p := p) (f := ⟨(m : Int), ft, fa, fl, fi⟩) (start := start) hB'.out harg2'.out (fun k hk => by
        show phasesAt p.rds (p.lift (m : Int).toNat) ft fa start (k : Int) ≠ []
        rw [Int.toNat_natCast, hlp'.out]
        exact hne.out k (by have h := hml'.out; omega))
       have hV1 : fitsV p ⟨(m : Int), ft, fa, fl, fi⟩ start = (List.range (mN + 1)).map fun i : Nat => phasesAt p.rds lift ft fa start (i : Int) := by
        rw [hV0, show (lastC p.rds).toNat + 1 = mN + 1 by have h := hml'.out; omega]
        show fitsTo p (p.lift (m : Int).toNat) _ start _ = _
        rw [Int.toNat_natCast, hlp'.out]; rfl
       have hgf := hrows.grid (by omega)
       have hbE := bel_set hbww'.out hbrv
       have jn : ¬ ((mN + 1 : Nat) : Int) < (mN : Int) + 1 := by omega
       have ⟨hJ', hbrv', hrows', hne', hE0', hV0', hV1', hgf'⟩ := hyd8 hJ hbrv hrows hne hE0 hV0 hV1 hgf
       have hbE' := hyd1 hbE
       clear hbE hgf hV1 hV0 hE0 hne hrows hbrv hJ
       go_wp2
       exact bodyPost_ret (v := .tuple #[.slice (some ⟨wr0.heap.size, 0, none⟩) (mN + 1) (mN + 1), .int .i64 0]) (by simp [results, Tryz.results21, go_sem]) rfl ⟨_, by rw [hE0'.out], hbE'.out, by rw [hV1'.out]; exact hgf'.out⟩
    ·intro x y w6 cnt1 hwx hlx hat hrg1 hlt hg1 hs1 hen
     have hhx : hasC p.rds x = true := by
      rw [← hB4s'.out.has x hwx]
      exact Maps.has_true_of_atKey hat
     obtain ⟨q1, q2⟩ := hasC_wf hro'.out hhx
     have hb46 : Below W4.heap.size W4 w6 := Below.grown hbw hg1 hbw.size (fun k e => by injection e with e; omega)
     have hI2 : ∃ left cnt, w6.ranges Tryz.prog 3 hdR B W4.heap.size n D left cnt ∧ Below W4.heap.size W4 w6 ∧ (∀ c, (Lit.int .i64 c).wf = true → hasC p.rds c = true → left (.int .i64 c) = false → c ≤ max mv x) ∧ (max mv x = 0 ∨ hasC p.rds (max mv x) = true) := ⟨_, _, hrg1, hb46, fun c hw hcc hl => (by
      by_cases e : c = x
      ·omega
      ·have h9 : (Lit.int .i64 c).sameKey (.int .i64 x) = false := by
        simp [Lit.sameKey, e]
       rw [h9] at hl
       have := hle c hw hcc (by simpa using hl)
       omega), (by
      by_cases e : mv ≤ x
      ·right; rw [show max mv x = x by omega]; exact hhx
      ·rw [show max mv x = mv by omega]; exact hmv)⟩
     have hmeas : w6.rangeLeft B W4.heap.size < wr.rangeLeft B W4.heap.size := by rw [hrg1.left_eq, hrg.left_eq]; exact hlt
     clear hle hmv
     have ⟨hI', hrg', hbw', hat', hrg1', hg1', hs1', hhx'⟩ := hyd8 hI hrg hbw hat hrg1 hg1 hs1 hhx
     have ⟨hb46', hI2', hmeas'⟩ := hyd3 hb46 hI2 hmeas
     clear hmeas hI2 hb46 hhx hs1 hg1 hrg1 hat hbw hrg hI
     go_wp2
     go_roundw
     case rel => exact ⟨max mv x, by omega, by omega, by go_num, hI2'⟩
     case measure => exact hmeas'.out
  ·have hno : argB p ⟨fh, ft, fa, fl, fi⟩ start = false := by rw [harg'.out]; simpa using hall
   have h1 := hbad'.out hno
   have h2 := hbadv'.out hno
   have ⟨hno', h1', h2', hall'⟩ := hyd4 hno h1 h2 hall
   clear hall h2 h1 hno
   cases B1
   ·go_wp2_with (first | (go_at_call 48; ((with_reducible refine (w1'.out _).mono ?_); rintro e w' ⟨rfl, rfl⟩)))
    exact bodyPost_ret (v := .tuple #[.slice none 0 0, .int .i64 2]) (by simp [results, Tryz.results21, go_sem]) rfl ⟨_, by rw [h1'.out], hbw2'.out, by rw [h2'.out]; exact GridL.nil _⟩
   cases B2
   ·go_wp2_with (first | (go_at_call 48; ((with_reducible refine (w1'.out _).mono ?_); rintro e w' ⟨rfl, rfl⟩)) | (go_at_call 48; ((with_reducible refine (w2'.out _).mono ?_); rintro e w' ⟨rfl, rfl⟩)))
    exact bodyPost_ret (v := .tuple #[.slice none 0 0, .int .i64 2]) (by simp [results, Tryz.results21, go_sem]) rfl ⟨_, by rw [h1'.out], hbw2'.out, by rw [h2'.out]; exact GridL.nil _⟩
   cases B3
   ·go_wp2_with (first | (go_at_call 48; ((with_reducible refine (w1'.out _).mono ?_); rintro e w' ⟨rfl, rfl⟩)) | (go_at_call 48; ((with_reducible refine (w2'.out _).mono ?_); rintro e w' ⟨rfl, rfl⟩)) | (go_at_call 48; ((with_reducible refine (w3'.out _).mono ?_); rintro e w' ⟨rfl, rfl⟩)))
    exact bodyPost_ret (v := .tuple #[.slice none 0 0, .int .i64 2]) (by simp [results, Tryz.results21, go_sem]) rfl ⟨_, by rw [h1'.out], hbw2'.out, by rw [h2'.out]; exact GridL.nil _⟩
   cases B4
   ·go_wp2_with (first | (go_at_call 48; ((with_reducible refine (w1'.out _).mono ?_); rintro e w' ⟨rfl, rfl⟩)) | (go_at_call 48; ((with_reducible refine (w2'.out _).mono ?_); rintro e w' ⟨rfl, rfl⟩)) | (go_at_call 48; ((with_reducible refine (w3'.out _).mono ?_); rintro e w' ⟨rfl, rfl⟩)) | (go_at_call 48; ((with_reducible refine (w4'.out _).mono ?_); rintro e w' ⟨rfl, rfl⟩)))
    exact bodyPost_ret (v := .tuple #[.slice none 0 0, .int .i64 2]) (by simp [results, Tryz.results21, go_sem]) rfl ⟨_, by rw [h1'.out], hbw2'.out, by rw [h2'.out]; exact GridL.nil _⟩
   exact absurd rfl hall'.out
end Go.Proofs.YtphdalgaemefoaaGreat
namespace Go.Proofs.YtphdalgaemefoaaGreat
set_option maxRecDepth 100000
set_option maxHeartbeats 1000000
open Go.RowKit
set_option linter.unusedVariables false
def offRel (X : Nat) : WRel where
 r W W' := (W'.os = W.os ∧ W'.tape = W.tape ∧ W'.output = W.output) ∧ W.heap.size ≤ W'.heap.size ∧ ∀ k, k < W.heap.size → k ≠ X → W'.heap[k]? = W.heap[k]?
 refl w := ⟨⟨rfl, rfl, rfl⟩, Nat.le_refl _, fun _ _ _ => rfl⟩
 drew w := ⟨⟨rfl, rfl, rfl⟩, Nat.le_refl _, fun _ _ _ => rfl⟩
 trans := by
  rintro a b c ⟨⟨h1, h2, h3⟩, h4, h5⟩ ⟨⟨k1, k2, k3⟩, k4, k5⟩
  exact ⟨⟨k1.trans h1, k2.trans h2, k3.trans h3⟩, Nat.le_trans h4 k4, fun k hk hx => (k5 k (Nat.lt_of_lt_of_le hk h4) hx).trans (h5 k hk hx)⟩
theorem offRel.of_le {X : Nat} (a b : World) (h : Le a b) : (offRel X).r a b := ⟨⟨h.os, h.tape, h.output⟩, h.size, fun k hk _ => h.block k hk⟩
theorem offRel.below {X n : Nat} {w a b : World} (h : (offRel X).r a b) (hb : Below n w a) (hn : n ≤ X) (hw : n ≤ a.heap.size) : Below n w b :=
 ⟨h.1.1.trans hb.os, h.1.2.1.trans hb.tape, h.1.2.2.trans hb.output, Nat.le_trans hb.size h.2.1, fun k hk => (h.2.2 k (by omega) (by omega)).trans (hb.block k hk)⟩
theorem offRel.blk {X : Nat} {a b : World} (h : (offRel X).r a b) {k : Nat} {o : Obj} (hk : a.heap[k]? = some o) (hx : k ≠ X) : b.heap[k]? = some o := (h.2.2 k (gsl hk) hx).trans hk
theorem own_off {X N : Nat} {a b : World} {e size n : Nat} {v : Value} {xs : List Value} (h : a.ownsRow N e size v n xs) (hr : (offRel X).r a b) (hX : X < N) : b.ownsRow N e size v n xs := by
 refine ⟨h.1, ?_⟩
 rcases h.2 with h0 | ⟨g, cap, cur, hv, hbg, hg, r⟩
 ·exact .inl h0
 ·exact .inr ⟨g, cap, cur, hv, hbg, offRel.blk hr hg (by omega), r⟩
theorem IntsN.off {X : Nat} {a b : World} {v : Value} {L : List Int} (h : IntsN X a v L) (hr : (offRel X).r a b) : IntsN X b v L := by
 obtain ⟨⟨A, c, rfl, h1, h2, h3, h4⟩, h5⟩ := h
 refine ⟨⟨A, c, rfl, h1, h2, h3, fun h0 => ?_⟩, h5⟩
 obtain ⟨g, off, rfl, hb, hc⟩ := h4 h0
 exact ⟨g, off, rfl, Nat.lt_of_lt_of_le hb hr.2.1, fun j hj => (World.cell?_of_block (a := ⟨g, off + j, none⟩) (hr.2.2 g hb (Nat.ne_of_gt (h5 g rfl)))).trans (hc j hj)⟩
def NewP (n N : Nat) (w : World) (v : Value) (p : Prog) : Prop := ∃ v0 v1 v5, v = .agg #[v0, v1, .int .i64 p.start, .int .i64 p.throw, .int .i64 p.adv, v5] ∧ IntsN n w v0 p.ros ∧ w.ownsRow N 3 1 v1 p.rub.length (p.rub.map vint) ∧ IntsN n w v5 p.shifts
theorem NewP.off {X N : Nat} {a b : World} {v : Value} {p : Prog} (h : NewP X N a v p) (hr : (offRel X).r a b) (hX : X < N) : NewP X N b v p := by
 obtain ⟨v0, v1, v5, e, x, y, z⟩ := h
 have x1 := IntsN.off x hr
 have y1 := own_off y hr hX
 have z1 := IntsN.off z hr
 unfold NewP
 refine ⟨v0, v1, v5, ?_, ?_, ?_, ?_⟩
 ·exact e
 ·exact x1
 ·exact y1
 ·exact z1
def TPred.ownI (X N : Nat) (hX : X < N) (L : List Int) : MPredR (offRel X) := ⟨fun v W => W.ownsRow N 3 1 v L.length (L.map vint), fun _ _ _ h hp => own_off hp h hX⟩
def TPred.newP (X N : Nat) (hX : X < N) (p : Prog) : MPredR (offRel X) := ⟨fun v W => NewP X N W v p, fun _ _ _ h hp => hp.off h hX⟩
def MPred.boxP (X N : Nat) (hX : X < N) (p : Prog) : MPred := ⟨fun _ W => ∃ v0 v1 v5, W.heap[X]? = some (.cells #[v0, v1, .int .i64 p.start, .int .i64 p.throw, .int .i64 p.adv, v5] 38) ∧ NewP X N W (.agg #[v0, v1, .int .i64 p.start, .int .i64 p.throw, .int .i64 p.adv, v5]) p,
 fun _ W W' h ⟨v0, v1, v5, a, b⟩ => ⟨v0, v1, v5, (Below.block h X (gsl a)).trans a, b.off (offRel.of_le _ _ h) hX⟩⟩
theorem set1_off (W : World) (X k : Nat) (u : Value) : (offRel X).r W (W.setCell ⟨X, k, none⟩ u) := by
 refine ⟨⟨rfl, rfl, rfl⟩, ?_, fun j _ hj => Below.heap_setCell W ⟨X, k, none⟩ u j hj⟩
 simp [World.setCell]
theorem set6_off (W : World) (X : Nat) (u0 u1 u2 u3 u4 u5 : Value) : (offRel X).r W ((((((W.setCell ⟨X, 0, none⟩ u0).setCell ⟨X, 1, none⟩ u1).setCell ⟨X, 2, none⟩ u2).setCell ⟨X, 3, none⟩ u3).setCell ⟨X, 4, none⟩ u4).setCell ⟨X, 5, none⟩ u5) :=
 (offRel X).trans (set1_off W X 0 u0) ((offRel X).trans (set1_off _ X 1 u1) ((offRel X).trans (set1_off _ X 2 u2) ((offRel X).trans (set1_off _ X 3 u3) ((offRel X).trans (set1_off _ X 4 u4) (set1_off _ X 5 u5)))))
end Go.Proofs.YtphdalgaemefoaaGreat
namespace Go.Proofs.YtphdalgaemefoaaGreat
set_option maxRecDepth 100000
set_option maxHeartbeats 1000000
open Go.RowKit
set_option linter.unusedVariables false
set_option linter.unusedSimpArgs false
def NewProg (n : Nat) (w : World) (v : Value) (p : Prog) : Prop := ∃ v0 v1 v5, v = .agg #[v0, v1, .int .i64 p.start, .int .i64 p.throw, .int .i64 p.adv, v5] ∧ Ints w v0 p.ros ∧ w.ownsRow n 3 1 v1 p.rub.length (p.rub.map vint) ∧ Ints w v5 p.shifts
theorem NewProg.prog {n : Nat} {w : World} {v : Value} {p : Prog} (h : NewProg n w v p) : IsProg w v p := by
 obtain ⟨v0, v1, v5, e, a, b, c⟩ := h
 exact ⟨v0, v1, v5, e, a, own_ints b, c⟩
theorem zeroProgN (n : Nat) (w : World) : NewProg n w (.agg #[.slice none 0 0, .slice none 0 0, .int .i64 0, .int .i64 0, .int .i64 0, .slice none 0 0]) ⟨[], [], 0, 0, 0, []⟩ := ⟨_, _, _, rfl, Arr.nil _ _, World.ownsRow_nil _ _ _ _, Arr.nil _ _⟩
theorem own_keep6 {w : World} {n N K e size len : Nat} {v : Value} {xs : List Value} {u0 u1 u2 u3 u4 u5 : Value} (h : w.ownsRow N e size v len xs) (hn : n < N) (hK : K ≤ N) : ((((((w.setCell ⟨n, 0, none⟩ u0).setCell ⟨n, 1, none⟩ u1).setCell ⟨n, 2, none⟩ u2).setCell ⟨n, 3, none⟩ u3).setCell ⟨n, 4, none⟩ u4).setCell ⟨n, 5, none⟩ u5).ownsRow K e size v len xs := by
 refine own_base ?_ hK
 exact own_apart (own_apart (own_apart (own_apart (own_apart (own_apart h hn _) hn _) hn _) hn _) hn _) hn _
def BestV (N : Nat) (W : World) (v : Value) : Option (List Int) → Prop
 | none => v = .slice none 0 0
 | some b => ∃ g c, v = .slice (some ⟨g, 0, none⟩) b.length c ∧ IntsN N W v b
theorem BestV.le {N : Nat} {W W' : World} {v : Value} {B : Option (List Int)} (h : BestV N W v B) (hb : Below W.heap.size W W') : BestV N W' v B := by
 cases B with
 | none => exact h
 | some b =>
  obtain ⟨g, c, e, hi⟩ := h
  exact ⟨g, c, e, hi.later hb⟩
theorem setCell_self {w : World} {X k : Nat} {cs : Array Value} {t : TypeId} {v : Value} (h : w.heap[X]? = some (.cells cs t)) (hv : cs[k]? = some v) : w.setCell ⟨X, k, none⟩ v = w := by
 rw [setCell_eq_setRow w X k cs t (0, 0) v h]
 obtain ⟨h1, h2⟩ := Array.getElem?_eq_some_iff.1 hv
 rw [show cs.setIfInBounds k v = cs from by rw [Array.setIfInBounds, dif_pos h1, ← h2, Array.set_getElem_self]]
 exact setRow_self w X cs t (0, 0) h
theorem fitsV_row {p : Pic} {f : Fnd} {start : Int} (hok : PicOk p) (hm : f.head.toNat < p.hs.length) : ∀ l ∈ fitsV p f start, ∀ x ∈ l, ∃ k : Nat, x = (k : Int) ∧ k < p.steps := by
 intro l hl x hx
 unfold fitsV at hl
 split at hl
 ·unfold fitsL at hl
  obtain ⟨c, -, rfl⟩ := List.mem_map.1 hl
  unfold phasesAt at hx
  obtain ⟨k, hk, rfl⟩ := List.mem_map.1 hx
  have hk2 := List.mem_range.1 (List.mem_filter.1 hk).1
  have hhd := hok.head _ (List.getElem_mem hm)
  have hll : (p.lift f.head.toNat).length = p.steps := by unfold Pic.lift; rw [List.getD_eq_getElem?_getD, List.getElem?_eq_getElem hm]; exact (liftL_length _ _).trans hhd.1
  exact ⟨k, rfl, by omega⟩
 ·cases hl
theorem pf_rd_Simplest (v : Value) (p : Pic) (f : Fnd) (start : Int) (w : World) (hp : IsPic w v p) (hf : p.Fit) (hff : f.Fit) (hs : fit64 start) :
  Calls Tryz.prog 7 #[v, fndV f, .int .i64 start] w fun e w' => ∃ v', e = .returned (.tuple #[v', .int .i64 (simpE p f start)]) ∧ Below w.heap.size w w' ∧ NewProg w.heap.size w' v' (simpP p f start) := by
 have hp9 := hp
 obtain ⟨vh, vr, rfl, hh, hr⟩ := hp
 obtain ⟨HA, hc, rfl, hhl⟩ := hh.slice
 obtain ⟨RA, rc, rfl, hrl⟩ := hr.slice
 unfold maxLen at hhl hrl
 have hff9 := hff
 obtain ⟨fh, ft, fa, fl, fi⟩ := f
 show Calls Tryz.prog 7 #[_, .agg #[.int .i64 fh, .int .i64 ft, .int .i64 fa, .int .i64 fl, .int .i64 fi], _] w _
 obtain ⟨W0, hW0, hb0, k0⟩ := newb w (.cells #[.slice HA p.hs.length hc, .int .i64 p.tl, .int .i64 p.th, .int .i64 p.al, .int .i64 p.ah, .slice RA p.rds.length rc] 25)
 obtain ⟨W1, hW1, hb1, k1⟩ := newb W0 (.cells #[.int .i64 fh, .int .i64 ft, .int .i64 fa, .int .i64 fl, .int .i64 fi] 35)
 obtain ⟨W2, hW2, hb2, k2⟩ := newb W1 (.cells #[.slice none 0 0, .slice none 0 0, .int .i64 0, .int .i64 0, .int .i64 0, .slice none 0 0] 38)
 have hbw1 := bel_set hb0 hb1
 have hbw2 := bel_set hbw1 hb2
 have k02 := blk hb2 (blk hb1 k0)
 have k12 := blk hb2 k1
 have z0 : w.heap.size < W0.heap.size := by rw [← hW0]; simp
 have z1 : W0.heap.size < W1.heap.size := by rw [← hW1]; simp
 obtain ⟨c0, c1, c2, c3, c4, c5⟩ := pc6 k02
 obtain ⟨d0, d1, d2, d3, d4⟩ := pc5 k12
 have kfit : ∀ W, Below w.heap.size w W → Calls Tryz.prog 21 #[.agg #[.slice HA p.hs.length hc, .int .i64 p.tl, .int .i64 p.th, .int .i64 p.al, .int .i64 p.ah, .slice RA p.rds.length rc], .agg #[.int .i64 fh, .int .i64 ft, .int .i64 fa, .int .i64 fl, .int .i64 fi], .int .i64 start] W fun e w' => ∃ v', e = .returned (.tuple #[v', .int .i64 (fitsE p ⟨fh, ft, fa, fl, fi⟩ start)]) ∧ Below W.heap.size W w' ∧ GridL w' v' (fitsV p ⟨fh, ft, fa, fl, fi⟩ start) := fun W h => pf_rd_Fits _ p ⟨fh, ft, fa, fl, fi⟩ start W (hp9.le h) hf hff9 hs
 obtain ⟨E, hE⟩ : ∃ E, fitsE p ⟨fh, ft, fa, fl, fi⟩ start = E := ⟨_, rfl⟩
 obtain ⟨L, hL⟩ : ∃ L, fitsV p ⟨fh, ft, fa, fl, fi⟩ start = L := ⟨_, rfl⟩
 rw [hE, hL] at kfit
 have ⟨hp9', hh', hr', hf', hff9', hb0', hb1', hb2'⟩ := hyd8 hp9 hh hr hf hff9 hb0 hb1 hb2
 have ⟨k0', k1', k2', hbw1', hbw2', k02', k12', kfit'⟩ := hyd8 k0 k1 k2 hbw1 hbw2 k02 k12 kfit
 have ⟨hE', hL'⟩ := hyd2 hE hL
 clear hL hE kfit k12 k02 hbw2 hbw1 k2 k1 k0 hb2 hb1 hb0 hff9 hf hr hh hp9
 go_enter Tryz.func7, Tryz.ntmps7
 go_wp2_with (fail)
 clear hW0 hW1 hW2
 generalize hP1 : W0.heap.size = P1 at *
 generalize hP2 : W1.heap.size = P2 at *
 have ⟨hP1', hP2'⟩ := hyd2 hP1 hP2
 clear hP2 hP1
 go_at_call 21
 refine (kfit'.out W2 hbw2'.out).mono ?_
 rintro e W3 ⟨vL, rfl, hb3, hgL⟩
 have hbw3 := bel_set hbw2'.out hb3
 have k03 := blk hb3 k02'.out
 have k13 := blk hb3 k12'.out
 have k23 := blk hb3 k2'.out
 obtain ⟨GA, gc, rfl, hgm⟩ := hgL.slice
 clear c0 c1 c2 c3 c4 c5 d0 d1 d2 d3 d4
 by_cases hE0 : E = 0
 ·subst hE0
  have hpb : picB p = true := by
   have h := hE'.out
   unfold fitsE at h
   split at h
   ·assumption
   ·cases h
  have harg : argB p ⟨fh, ft, fa, fl, fi⟩ start = true := by
   have h := hE'.out
   unfold fitsE at h
   rw [if_pos hpb] at h
   split at h
   ·assumption
   ·cases h
  have hok := picB_iff.1 hpb
  obtain ⟨r1, r2⟩ : 0 ≤ fh ∧ fh ≤ (p.hs.length : Int) - 1 := by
   rw [argB_eq] at harg
   simp only [Bool.and_eq_true] at harg
   exact within_iff.1 harg.1
  obtain ⟨m, rfl⟩ : ∃ m : Nat, fh = (m : Int) := ⟨fh.toNat, by omega⟩
  have hm : m < p.hs.length := by omega
  obtain ⟨bh, oh, ch, vr0, vb0, heq, hbl, g0, g1, i0, i1⟩ := (hh'.out.le hbw3).at hm
  injection heq with e1 e2 e3
  subst e1 e3
  clear e2
  obtain ⟨Ar, cr, rfl, -⟩ := id i0
  obtain ⟨Ab, cb, rfl, -⟩ := id i1
  have i1w : Ints w (.slice Ab p.hs[m].rub.length cb) p.hs[m].rub := by
   obtain ⟨bh', oh', ch', vr', vb', heq', hbl', g0', g1', i0', i1'⟩ := hh'.out.at hm
   injection heq' with e1 e2 e3
   injection e1 with e1
   injection e1 with e1 e4
   subst e1 e4
   have h9 := (Below.cell hbw3 (p := ⟨bh, oh + m * 2 + 1, none⟩) hbl').trans g1'
   rw [g1] at h9
   injection h9 with h9
   subst h9
   exact i1'
  have hhd := hok.head _ (List.getElem_mem hm)
  have hst := hok.steps
  rw [hhd.1] at g0 i0
  obtain ⟨W4, hW4, hb4, k4⟩ := newb W3 (.cells #[.slice Ar p.steps cr, .slice Ab p.hs[m].rub.length cb] 44)
  obtain ⟨c0, c1, c2, c3, c4, c5⟩ := pc6 k03
  obtain ⟨d0, d1, d2, d3, d4⟩ := pc5 k13
  obtain ⟨x0, x1⟩ := pc2 k4
  have j1 : (m : Int) < (p.hs.length : Int) := by omega
  have j2 : (0 : Int) ≤ (m : Int) := by omega
  have hbw4 := bel_set hbw3 hb4
  have hgL4 := hgL.le hb4

  have hLl : L.length ≤ 1000 := by
   have hlc := lastC_le (rds := p.rds) (fun r h => (hok.rd r h).1)
   rw [← hL'.out]
   unfold fitsV fitsL
   split
   ·rw [List.length_map, List.length_range]; omega
   ·simp
  have hLr : ∀ l ∈ L, ∀ x ∈ l, ∃ k : Nat, x = (k : Int) ∧ k < p.steps := by
   rw [← hL'.out]
   exact fitsV_row hok hm
  obtain ⟨W5, hW5, hb5, k5⟩ := newb W4 (.cells #[.int .i64 (p.steps : Int), .slice none 0 0] 69)
  have z4 : W3.heap.size < W4.heap.size := gsl k4
  have z5 : W4.heap.size < W5.heap.size := gsl k5
  have z5b : W5.heap.size = W4.heap.size + 1 := by rw [← hW5]; simp
  have k24 := blk hb4 k23
  have k14 := blk hb4 k13
  have z24 : P2 < W3.heap.size := gsl k23
  have i04 := i0.below hb4
  have i14 := i1.below hb4
  obtain ⟨t0, t1⟩ := pc2 k5
  have f5 := pfrz k5 1
  have e5 : W5.setCell ⟨W4.heap.size, 1, none⟩ (.slice none 0 0) = W5 := setCell_self k5 rfl
  have hI5 : ∃ vo, Below W4.heap.size W4 W5 ∧ W5.heap[W4.heap.size]? = some (.cells #[.int .i64 (p.steps : Int), vo] 69) ∧ W5.heap.size ≤ W5.heap.size ∧ GrB W5 W5.heap.size vo (tabL p.steps (L.take 0)) := ⟨_, hb5, k5, Nat.le_refl _, GrB.nil _ _⟩
  have hPR : ∀ q, simpleL L p.steps = q → simpE p ⟨(m : Int), ft, fa, fl, fi⟩ start = (if q = none then 6 else 0) := fun q h => by unfold simpE; rw [hE'.out, hL'.out, h]; rfl
  generalize hBL : p.hs[m].rub.length = BL at *
  have ⟨hb3', hgL', hbw3', k03', k13', k23', hpb', harg'⟩ := hyd8 hb3 hgL hbw3 k03 k13 k23 hpb harg
  have ⟨hok', i0', i1', i1w', hhd', k4', hb4', hbw4'⟩ := hyd8 hok i0 i1 i1w hhd k4 hb4 hbw4
  have ⟨hgL4', k24', k14', i04', i14', hPR', hBL', hLr'⟩ := hyd8 hgL4 k24 k14 i04 i14 hPR hBL hLr
  have ⟨hb5', k5', hI5', z5b'⟩ := hyd4 hb5 k5 hI5 z5b
  clear z5b hI5 k5 hb5 hLr hBL hPR i14 i04 k14 k24 hgL4 hbw4 hb4 k4 hhd i1w i1 i0 hok harg hpb k23 k13 k03 hbw3 hgL hb3
  go_wp2_with (fail)
  clear hW4 hW5 c0 c1 c2 c3 c4 c5 d0 d1 d2 d3 d4 x0 x1 g0 g1 t0 t1 f5 e5
  generalize hP4 : W3.heap.size = P4 at *
  generalize hZ5 : W5.heap.size = Z5 at *
  have ⟨hP4', hZ5'⟩ := hyd2 hP4 hZ5
  clear hZ5 hP4
  go_loopw [48] (fun cx wr => ∃ c : Nat, c ≤ L.length ∧ cx = .int .i64 (c : Int) ∧ Hid (∃ vo, Below W4.heap.size W4 wr ∧ wr.heap[W4.heap.size]? = some (.cells #[.int .i64 (p.steps : Int), vo] 69) ∧ Z5 ≤ wr.heap.size ∧ GrB wr Z5 vo (tabL p.steps (L.take c)))) (fun cx _ => L.length - (intOf cx).toNat)
  case atStart =>
   obtain ⟨vo, q1, q2, q3, q4⟩ := hI5'.out
   exact ⟨0, Nat.zero_le _, rfl, Lib.hid ⟨vo, q1, q2, Nat.le_of_eq hZ5'.out.symm, q4⟩⟩
  case round =>
   rename World => wr0
   obtain ⟨c, hcl, rfl, hI⟩ := hrel
   obtain ⟨vo, hb4r, kT, hZr, hgr⟩ := hI.out
   obtain ⟨t0, t1⟩ := pc2 kT
   obtain ⟨Av, cv, rfl⟩ := hgr.form
   rw [tabL_length] at hgr t1 kT
   have hlt0 : (L.take c).length ≤ L.length := List.length_take_le' c L
   obtain ⟨tl, htl⟩ : ∃ k, (L.take c).length = k := ⟨_, rfl⟩
   rw [htl] at hgr t1 kT hlt0
   by_cases hlt : c < L.length
   ·obtain ⟨lb, lo, lc, lv, heq, hlbl, y0, hil⟩ := (hgL4'.out.le hb4r).at hlt
    injection heq with e1 e2 e3
    subst e1 e3
    clear e2
    obtain ⟨Al, cl, rfl, -⟩ := id hil
    have hlr := hLr'.out _ (List.getElem_mem hlt)
    have htk := tabL_take (steps := p.steps) hlt
    obtain ⟨l, hl⟩ : ∃ l, L[c] = l := ⟨_, rfl⟩
    rw [hl] at y0 hil hlr htk
    have j3 : (c : Int) < (L.length : Int) := by omega
    have j4 : (0 : Int) ≤ (c : Int) := by omega
    have hlm : l.length ≤ 9223372036854775807 := by
     obtain ⟨A9, c9, e9, q1, q2, -⟩ := id hil
     unfold maxLen at q2
     omega
    have ⟨hI', hb4r', kT', hgr', hil', hlr', hl', htk'⟩ := hyd8 hI hb4r kT hgr hil hlr hl htk
    have htl' := hyd1 htl
    clear htl htk hl hlr hil hgr kT hb4r hI
    go_wp2_with (first | (at_make; go_must (refine wpList_makeG (f := Value.bool) _ rfl _ _ 70 rfl wr0.heap.size 4 false 1 elemB9 rfl (by decide) p.steps rfl rfl (by omega) (Nat.le_refl _) (rowB p.steps []) (rowB_nil _) ?_)) | fail)
    intro w5 r1 r2 r3
    clear y0 t0 t1
    have hI6 : Below wr0.heap.size wr0 w5 ∧ w5.ownsRow wr0.heap.size 4 1 (.slice (some ⟨wr0.heap.size, 0, none⟩) p.steps p.steps) p.steps ((rowB p.steps (l.take 0)).map Value.bool) := ⟨r2, r1⟩
    have ⟨r1', r2', hI6'⟩ := hyd3 r1 r2 hI6
    clear hI6 r2 r1
    go_wp2_with (fail)
    go_loopw [57] (fun kx wq => ∃ k : Nat, k ≤ l.length ∧ kx = .int .i64 (k : Int) ∧ Hid (Below wr0.heap.size wr0 wq ∧ wq.ownsRow wr0.heap.size 4 1 (.slice (some ⟨wr0.heap.size, 0, none⟩) p.steps p.steps) p.steps ((rowB p.steps (l.take k)).map Value.bool))) (fun kx _ => l.length - (intOf kx).toNat)
    case atStart => exact ⟨0, Nat.zero_le _, rfl, hI6'⟩
    case round =>
     obtain ⟨k, hkl, rfl, hJ⟩ := hrel
     obtain ⟨hbq, hown⟩ := hJ.out
     by_cases hk : k < l.length
     ·obtain ⟨b2, o2, c2, heq, hb2l, -, -, hcell⟩ := Ints.cells (hil'.out.below hbq) (by omega)
      injection heq with e1 e2 e3
      subst e1 e3
      clear e2
      have y1 := hcell k hk
      obtain ⟨x, hx, hxs⟩ := hlr'.out _ (List.getElem_mem hk)
      rw [hx] at y1
      have hst2 := rowB_set (steps := p.steps) (l := l.take k) hxs
      have htk2 : l.take (k + 1) = l.take k ++ [(x : Int)] := by rw [tab_take hk, hx]
      rw [← htk2] at hst2
      have y2 := own_cellG (f := Value.bool) hown (rowB_length _ _) (rowB_get? (l := l.take k) hxs)
      have f2 := hown.frozenAt x
      have hnx := own_putG (f := Value.bool) hown x true
      rw [hst2] at hnx
      have j5 : (k : Int) < (l.length : Int) := by omega
      have j6 : (0 : Int) ≤ (k : Int) := by omega
      have j7 : (x : Int) < (p.steps : Int) := by omega
      have j8 : (0 : Int) ≤ (x : Int) := by omega
      have hI7 : Below wr0.heap.size wr0 (wr.setCell ⟨wr0.heap.size, x, none⟩ (.bool true)) ∧ (wr.setCell ⟨wr0.heap.size, x, none⟩ (.bool true)).ownsRow wr0.heap.size 4 1 (.slice (some ⟨wr0.heap.size, 0, none⟩) p.steps p.steps) p.steps ((rowB p.steps (l.take (k + 1))).map Value.bool) := ⟨Below.setCell hbq (p := ⟨wr0.heap.size, x, none⟩) (Nat.le_refl _) _, hnx⟩
      have ⟨hJ', hbq', hown', hcell', hx', hst2', htk2', hnx'⟩ := hyd8 hJ hbq hown hcell hx hst2 htk2 hnx
      have hI7' := hyd1 hI7
      clear hI7 hnx htk2 hst2 hx hcell hown hbq hJ
      go_wp2
      go_roundw
      case rel => exact ⟨k + 1, by omega, by go_num, hI7'⟩
      case measure => simp [intOf]; omega
     ·obtain rfl : k = l.length := by omega
      rw [List.take_length] at hown
      have hrow : Arr vbool wr (.slice (some ⟨wr0.heap.size, 0, none⟩) p.steps p.steps) (rowB p.steps l) := Arr.of_own (n := p.steps) hown
      have kTq := blk hbq kT'.out
      obtain ⟨t0, t1⟩ := pc2 kTq
      have hgq := hgr'.out.le hbq
      have hb4q := hb4r'.out.trans (hbq.mono (by have := gsl kT'.out; omega))
      have zq := hbq.size
      obtain ⟨W8, hW8, hb8, k8⟩ := newb wr (.cells #[.slice (some ⟨wr0.heap.size, 0, none⟩) p.steps p.steps] 70)
      have x8 := cell_of_row W8 wr.heap.size 0 _ _ _ k8
      have hg8 := hgq.le hb8
      have hrow8 := hrow.below hb8
      have hb48 := hb4q.trans (hb8.mono (by have := gsl kTq; omega))
      have kT8 := blk hb8 kTq
      have z8 := hb8.size
      have hzz : W4.heap.size < Z5 := by have := z5b'.out; omega
      have ⟨hJ', hbq', hown', hrow', kTq', hgq', hb4q', hb8'⟩ := hyd8 hJ hbq hown hrow kTq hgq hb4q hb8
      have ⟨k8', hg8', hrow8', hb48', kT8'⟩ := hyd5 k8 hg8 hrow8 hb48 kT8
      clear kT8 hb48 hrow8 hg8 k8 hb8 hb4q hgq kTq hrow hown hbq hJ
      go_wp2_with (first | (at_builtin; go_must (refine wpList_appRB _ rfl _ _ rfl Z5 (.slice Av tl cv) (tabL p.steps (L.take c)) rfl hg8'.out wr.heap.size _ _ _ (rowB p.steps l) rfl x8 hrow8'.out (by rw [tabL_length, htl'.out]; omega) (by omega) ?_)) | fail)
      intro v3 w3 hg3 hb3q
      have kT3 := ((hb3q Z5 (Nat.le_refl _)).block W4.heap.size hzz).trans kT8'.out
      obtain ⟨s0, s1⟩ := pc2 kT3
      have fs := pfrz kT3 1
      have hg4 := hg3.put (k := 1) kT3 hzz (by decide) (by intro c hc b; simp at hc; rcases hc with rfl | rfl <;> intro h <;> cases h) v3
      have kT4 : (w3.setCell ⟨W4.heap.size, 1, none⟩ v3).heap[W4.heap.size]? = some (.cells #[.int .i64 (p.steps : Int), v3] 69) := by
       simp only [World.setCell, Array.getElem?_modify, kT3]
       simp
      have hb44 : Below W4.heap.size W4 (w3.setCell ⟨W4.heap.size, 1, none⟩ v3) := (hb48'.out.trans (hb3q W4.heap.size (Nat.le_of_lt hzz))).setCell (p := ⟨W4.heap.size, 1, none⟩) (Nat.le_refl _) _
      have hI8 : ∃ vo, Below W4.heap.size W4 (w3.setCell ⟨W4.heap.size, 1, none⟩ v3) ∧ (w3.setCell ⟨W4.heap.size, 1, none⟩ v3).heap[W4.heap.size]? = some (.cells #[.int .i64 (p.steps : Int), vo] 69) ∧ Z5 ≤ (w3.setCell ⟨W4.heap.size, 1, none⟩ v3).heap.size ∧ GrB (w3.setCell ⟨W4.heap.size, 1, none⟩ v3) Z5 vo (tabL p.steps (L.take (c + 1))) := ⟨v3, hb44, kT4, by have := (hb3q Z5 (Nat.le_refl _)).size; simp [World.setCell]; omega, by rw [htk'.out]; exact hg4⟩
      obtain ⟨A3, c3, hv3⟩ := hg3.form
      obtain ⟨n3, hn3⟩ : ∃ k, (tabL p.steps (L.take c) ++ [rowB p.steps l]).length = k := ⟨_, rfl⟩
      rw [hn3] at hv3
      subst hv3
      clear hn3
      clear t0 t1 x8
      have ⟨hg3', hb3q', kT3', hg4', kT4', hb44', hI8'⟩ := hyd7 hg3 hb3q kT3 hg4 kT4 hb44 hI8
      clear hI8 hb44 kT4 hg4 kT3 hb3q hg3
      go_wp2
      go_roundw
      case rel => exact ⟨c + 1, by omega, by go_num, hI8'⟩
      case measure => simp [intOf]; omega
   ·obtain rfl : c = L.length := by omega
    rw [List.take_length] at hgr htl
    subst htl
    have hbwz := bel_set hbw4'.out hb4r
    have hgz := hgr.grid
    have k1z := blk hb4r k14'.out
    have k2z := blk hb4r k24'.out
    have k4z := blk hb4r k4'.out
    have i0z := i04'.out.below hb4r
    have i1z := i14'.out.below hb4r
    have zTz := gsl kT
    have hst3 := hst.1
    have hst96 := hst.2
    have ⟨hI', hb4r', kT', hgr', hbwz', hgz', k1z', k2z'⟩ := hyd8 hI hb4r kT hgr hbwz hgz k1z k2z
    have ⟨k4z', i0z', i1z'⟩ := hyd3 k4z i0z i1z
    clear i1z i0z k4z k2z k1z hgz hbwz hgr kT hb4r hI
    go_wp2_with (fail)
    clear t0 t1
    go_loopw [72] (fun nx wr => ∃ n : Nat, n ≤ 12 ∧ nx = .int .i64 (n : Int) ∧ Hid (Below wr0.heap.size wr0 wr) ∧ Hid (∀ k, k < n → ∀ j, j < p.steps → bestL L p.steps (k + 1) (j : Int) = none)) (fun nx _ => 13 - (intOf nx).toNat)
    case atStart => exact ⟨0, by omega, rfl, Lib.hid (Below.refl _ _), Lib.hid fun k h => absurd h (Nat.not_lt_zero k)⟩
    case round =>
     obtain ⟨n, hn12, rfl, hbn, hnone⟩ := hrel
     obtain ⟨t0, t1⟩ := pc2 (blk hbn.out kT'.out)
     by_cases hn : n < 12
     ·have j3 : (n : Int) < 12 := by omega
      go_wp2_with (fail)
      rename World => wn
      clear t0 t1
      go_loopw [77] (fun fx wr => ∃ first : Nat, first ≤ p.steps ∧ fx = .int .i64 (first : Int) ∧ Hid (Below wr0.heap.size wr0 wr) ∧ Hid (∀ j, j < first → bestL L p.steps (n + 1) (j : Int) = none)) (fun fx _ => p.steps - (intOf fx).toNat)
      case atStart => exact ⟨0, Nat.zero_le _, rfl, hbn, Lib.hid fun j h => absurd h (Nat.not_lt_zero j)⟩
      case round =>
       obtain ⟨first, hfi, rfl, hbf, hfnone⟩ := hrel
       obtain ⟨t0, t1⟩ := pc2 (blk hbf.out kT'.out)
       by_cases hfl : first < p.steps
       ·have j4 : (first : Int) < (p.steps : Int) := by omega
        have hI9 : Below wr0.heap.size wr0 wr ∧ BestV P2 wr (.slice none 0 0) (bestTo L p.steps (n + 1) (first : Int) 0) := ⟨hbf.out, rfl⟩
        have hI9' := hyd1 hI9
        clear hI9
        go_wp2_with (fail)
        rename World => wf
        clear t0 t1
        go_loopw [82, 19] (fun ax vb wr => ∃ all : Nat, all ≤ p.steps ∧ ax = .int .i64 (all : Int) ∧ Hid (Below wr0.heap.size wr0 wr ∧ BestV P2 wr vb (bestTo L p.steps (n + 1) (first : Int) all))) (fun ax _ _ => p.steps - (intOf ax).toNat)
        case atStart => exact ⟨0, Nat.zero_le _, rfl, hI9'⟩
        case round =>
         obtain ⟨all, hal, rfl, hJ⟩ := hrel
         obtain ⟨hba, hbv⟩ := hJ.out
         obtain ⟨t0, t1⟩ := pc2 (blk hba kT'.out)
         by_cases hall : all < p.steps
         ·have ksh : Calls Tryz.prog 22 #[.agg #[.int .i64 (p.steps : Int), .slice Av L.length cv], .int .i64 ((n : Int) + 1), .int .i64 (first : Int), .int .i64 (all : Int)] wr fun e w' => ∃ v' b, e = .returned (.tuple #[v', .bool b]) ∧ b = (listedL L p.steps (n + 1) (first : Int) (all : Int)).isSome ∧ Below wr.heap.size wr w' ∧ (b = true → Ints w' v' ((listedL L p.steps (n + 1) (first : Int) (all : Int)).getD []) ∧ ∃ g l c, v' = .slice (some ⟨g, 0, none⟩) l c ∧ wr.heap.size ≤ g) :=
           pf_rd_shifts _ L p.steps (n + 1) first all wr (hgz'.out.le hba) hLl (by omega) (by omega) (by omega) (by omega) hfl hall
          have hsucc := bestTo_succ L p.steps (n + 1) (first : Int) all
          obtain ⟨X, hX⟩ : ∃ X, listedL L p.steps (n + 1) (first : Int) (all : Int) = X := ⟨_, rfl⟩
          obtain ⟨Bo, hBo⟩ : ∃ B, bestTo L p.steps (n + 1) (first : Int) all = B := ⟨_, rfl⟩
          have hXl : ∀ l, X = some l → l.length = n + 1 := fun l h => listedL_length (by omega) (hX.trans h)
          have hBl : ∀ l, Bo = some l → l.length = n + 1 := fun l h => bestTo_length (by omega) all l (hBo.trans h)
          rw [hX] at ksh hsucc
          rw [hBo] at hsucc hbv
          have j5 : (all : Int) < (p.steps : Int) := by omega
          have ⟨hJ', hba', hbv', ksh', hsucc', hX', hXl', hBl'⟩ := hyd8 hJ hba hbv ksh hsucc hX hXl hBl
          clear hBl hXl hX hsucc ksh hbv hba hJ
          go_wp2_with (fail)
          go_at_call 22
          refine ksh'.out.mono ?_
          rintro e W6 ⟨vx, b, rfl, hb, hb6, hx6⟩
          have hba6 := bel_set hba'.out hb6
          clear t0 t1
          cases X with
          | none =>
           obtain rfl : b = false := hb
           have hn9 : Below wr0.heap.size wr0 W6 ∧ BestV P2 W6 u19 (bestTo L p.steps (n + 1) (first : Int) (all + 1)) := ⟨hba6, by rw [hsucc'.out]; have h := hbv'.out.le hb6; cases Bo <;> exact h⟩
           have ⟨hb6', hx6', hba6', hn9', hBo'⟩ := hyd5 hb6 hx6 hba6 hn9 hBo
           clear hBo hn9 hba6 hx6 hb6
           go_wp2
           go_roundw
           case rel => exact ⟨all + 1, by omega, by go_num, hn9'⟩
           case measure => simp [intOf]; omega
          | some l =>
           obtain rfl : b = true := hb
           obtain ⟨hxi, gx, lx, cx, rfl, hgx⟩ := hx6 rfl
           replace hxi : Ints W6 (.slice (some ⟨gx, 0, none⟩) lx cx) l := hxi
           obtain rfl : lx = l.length := hxi.len
           have hll := hXl'.out l rfl
           have hgx2 : P2 < gx := by
            have h8 := hba'.out.size
            have h9 : P2 < wr0.heap.size := gsl k2z'.out
            omega
           have hxn : IntsN P2 W6 (.slice (some ⟨gx, 0, none⟩) l.length cx) l := ⟨hxi, fun g hg => (by
            have hg2 : gx = g := by simpa [Value.ownBlock] using hg
            omega)⟩
           have hbx : BestV P2 W6 (.slice (some ⟨gx, 0, none⟩) l.length cx) (some l) := ⟨gx, cx, rfl, hxn⟩
           cases Bo with
           | none =>
            have hv0 : u19 = .slice none 0 0 := hbv'.out
            subst hv0
            have hnil := fun W => Lib.run_eql_slice_nil (P := Tryz.prog) W 36 3 none 0 0 0 0 Tryz.underlying36
            have hn9 : Below wr0.heap.size wr0 W6 ∧ BestV P2 W6 (.slice (some ⟨gx, 0, none⟩) l.length cx) (bestTo L p.steps (n + 1) (first : Int) (all + 1)) := ⟨hba6, by rw [hsucc'.out]; exact hbx⟩
            have ⟨hb6', hba6', hn9', hBo', hxi', hxn', hbx', hll'⟩ := hyd8 hb6 hba6 hn9 hBo hxi hxn hbx hll
            clear hll hbx hxn hxi hBo hn9 hba6 hb6
            go_wp2
            go_roundw
            case rel => exact ⟨all + 1, by omega, by go_num, hn9'⟩
            case measure => simp [intOf]; omega
           | some bb =>
            obtain ⟨gb, cb9, rfl, hbn9⟩ := hbv'.out.le hb6
            have hlb := hBl'.out bb rfl
            have hnil := fun W => Lib.run_eql_slice_nil (P := Tryz.prog) W 36 3 (some ⟨gb, 0, none⟩) bb.length cb9 0 0 Tryz.underlying36
            have kc := pf_sCompare _ _ l bb W6 hxi hbn9.1 (by omega)
            obtain ⟨F, hF⟩ : ∃ F, lessL l bb = F := ⟨_, rfl⟩
            rw [hF] at kc
            cases F with
            | true =>
             have hn9 : Below wr0.heap.size wr0 W6 ∧ BestV P2 W6 (.slice (some ⟨gx, 0, none⟩) l.length cx) (bestTo L p.steps (n + 1) (first : Int) (all + 1)) := ⟨hba6, by rw [hsucc'.out]; show BestV _ _ _ (if lessL l bb then some l else some bb); rw [hF]; exact hbx⟩
             have ⟨hb6', hba6', hn9', hBo', hxi', hxn', hbx', hll'⟩ := hyd8 hb6 hba6 hn9 hBo hxi hxn hbx hll
             have ⟨hlb', hbn9', kc', hF'⟩ := hyd4 hlb hbn9 kc hF
             clear hF kc hbn9 hlb hll hbx hxn hxi hBo hn9 hba6 hb6
             go_wp2_with (fail)
             go_at_call 23
             refine kc'.out.mono ?_
             rintro e w' ⟨cc, rfl, hcc, rfl⟩
             have hcc2 : cc < 0 := by simpa using hcc
             clear hcc
             go_wp2
             go_roundw
             case rel => exact ⟨all + 1, by omega, by go_num, hn9'⟩
             case measure => simp [intOf]; omega
            | false =>
             have hn9 : Below wr0.heap.size wr0 W6 ∧ BestV P2 W6 (.slice (some ⟨gb, 0, none⟩) bb.length cb9) (bestTo L p.steps (n + 1) (first : Int) (all + 1)) := ⟨hba6, by rw [hsucc'.out]; show BestV _ _ _ (if lessL l bb then some l else some bb); rw [hF]; exact ⟨gb, cb9, rfl, hbn9⟩⟩
             have ⟨hb6', hba6', hn9', hBo', hxi', hxn', hbx', hll'⟩ := hyd8 hb6 hba6 hn9 hBo hxi hxn hbx hll
             have ⟨hlb', hbn9', kc', hF'⟩ := hyd4 hlb hbn9 kc hF
             clear hF kc hbn9 hlb hll hbx hxn hxi hBo hn9 hba6 hb6
             go_wp2_with (fail)
             go_at_call 23
             refine kc'.out.mono ?_
             rintro e w' ⟨cc, rfl, hcc, rfl⟩
             have hcc2 : ¬ cc < 0 := by simpa using hcc
             clear hcc
             go_wp2
             go_roundw
             case rel => exact ⟨all + 1, by omega, by go_num, hn9'⟩
             case measure => simp [intOf]; omega
         ·obtain rfl : all = p.steps := by omega
          obtain ⟨Bo, hBo⟩ : ∃ B, bestTo L p.steps (n + 1) (first : Int) p.steps = B := ⟨_, rfl⟩
          rw [hBo] at hbv
          cases Bo with
          | none =>
           have hv0 : u19 = .slice none 0 0 := hbv
           subst hv0
           have hn9 : ∀ j, j < first + 1 → bestL L p.steps (n + 1) (j : Int) = none := fun j hj => by
            by_cases e : j = first
            ·subst e; rw [bestL_eq]; exact hBo
            ·exact hfnone.out j (by omega)
           have ⟨hJ', hba', hbv', hBo', hn9'⟩ := hyd5 hJ hba hbv hBo hn9
           clear hn9 hBo hbv hba hJ
           go_wp2
           go_roundw
           case rel => exact ⟨first + 1, by omega, by go_num, hba'.out, hn9'.out⟩
           case measure => simp [intOf]; omega
          | some bb =>
--@ARM33
           obtain ⟨gb, cb9, rfl, hbn9⟩ := hbv
           have hsn := simple_some (L := L) (steps := p.steps) (n := n + 1) (first := first) (l := bb) (by omega) (by omega) hfl (by rw [bestL_eq]; exact hBo) (fun k h1 h2 j hj => (by have h := hnone.out (k - 1) (by omega) j hj; rwa [show k - 1 + 1 = k by omega] at h)) hfnone.out
           have hgd : p.hs.getD ((m : Int)).toNat default = p.hs[m] := by simp [hm]
           have hE6 : simpE p ⟨(m : Int), ft, fa, fl, fi⟩ start = 0 := by rw [hPR'.out _ hsn]; rfl
           have hp0 : simpP p ⟨(m : Int), ft, fa, fl, fi⟩ start = ⟨movedL p.hs[m].ros (first : Int), p.hs[m].rub, start, ft, fa, bb⟩ := by unfold simpP; rw [if_pos hE'.out, hL'.out, hsn]; show (⟨movedL (p.hs.getD ((m : Int)).toNat default).ros (first : Int), (p.hs.getD ((m : Int)).toNat default).rub, start, ft, fa, bb⟩ : Prog) = _; rw [hgd]
           have k4r := blk hba k4z'.out
           obtain ⟨x0, x1⟩ := pc2 k4r
           have kturn := pf_rd_Turned _ p.hs[m].ros first wr (i0z'.out.below hba) hhd'.out.2.1 (by rw [hhd'.out.1]; exact hfl)
           rw [hhd'.out.1] at kturn
           have hba0 := hba.size
           have z2r : P2 < wr.heap.size := Nat.lt_of_lt_of_le (gsl k2z'.out) hba0
           have ⟨hJ', hba', hBo', hbn9', hsn', hgd', hE6', hp0'⟩ := hyd8 hJ hba hBo hbn9 hsn hgd hE6 hp0
           have ⟨k4r', kturn'⟩ := hyd2 k4r kturn
           clear kturn k4r hp0 hE6 hgd hsn hbn9 hBo hba hJ
           go_wp2_with (fail)
           go_at_call 12
           refine kturn'.out.mono ?_
           rintro e W6 ⟨vt, rfl, hb6, hot⟩
           have hba6 := bel_set hba'.out hb6
           have hti0 := own_ints hot
           obtain ⟨TA, tc, rfl⟩ := slice_formR hot
           have hti : IntsN P2 W6 (.slice TA p.steps tc) (movedL p.hs[m].ros (first : Int)) := ⟨hti0, fun g hg => (by have h := (hot.lt g hg).1; omega)⟩
           have hbn6 := hbn9'.out.later hb6
           have k46 := blk hb6 k4r'.out
           have k16 := blk hba6 k1z'.out
           have k26 := blk hba6 k2z'.out
           have hbw6 := bel_set hbwz'.out hba6
           have hru : p.hs[m].rub.length ≤ 1000 := by obtain ⟨q1, q2, q3, -⟩ := rubOk_iff.1 hhd'.out.2.2; omega
           have z26 : P2 < W6.heap.size := gsl k26
           have hwP : w.heap.size ≤ P2 := by omega
           have hw6 := hbw6.size
           have i16 := i1z'.out.below hba6
           have kcl : ∀ W, (offRel P2).r W6 W → Calls Tryz.prog 24 #[.slice Ab BL cb] W fun e w' => ∃ v', e = .returned v' ∧ Below W.heap.size W w' ∧ w'.ownsRow W6.heap.size 3 1 v' p.hs[m].rub.length (p.hs[m].rub.map vint) := fun W h => (pf_Clone _ _ W (i1w'.out.below (offRel.below h hbw6 hwP hw6)) (by omega)).mono fun e w' ⟨v', h1, h2, h3, _⟩ => ⟨v', h1, h2, own_base h3 h.2.1⟩
           have zP1 : P1 < P2 := by omega
           clear x0 x1 t0 t1
           have ⟨hb6', hot', hti0', hba6', hti', hbn6', k46', k16'⟩ := hyd8 hb6 hot hti0 hba6 hti hbn6 k46 k16
           have ⟨k26', hbw6', i16', kcl', hru'⟩ := hyd5 k26 hbw6 i16 kcl hru
           clear hru kcl i16 hbw6 k26 k16 k46 hbn6 hti hba6 hti0 hot hb6
           go_wp2_with (fail)
           refine wp_region_one (R := leRel) (T := offRel P2) offRel.of_le 13 12 (by decide) [some 116, some 117, some 118, some 119, some 120, some 121, some 122, some 123, some 124, some 125, some 126, some 127, none, some 7] [[], [], [1], [2], [], [], [5], [], [7], [], [0, 3, 4, 6, 8, 9], [], [10], [11]]
            [.eq (.slice TA p.steps tc), .eq (.pointer (some ⟨P4, 1, none⟩)), .eq (.slice Ab BL cb), TPred.ownI P2 W6.heap.size z26 p.hs[m].rub, .eq (.int .i64 start), .eq (.pointer (some ⟨P1, 1, none⟩)), .eq (.int .i64 ft), .eq (.pointer (some ⟨P1, 2, none⟩)), .eq (.int .i64 fa), .eq (.slice (some ⟨gb, 0, none⟩) bb.length cb9), TPred.newP P2 W6.heap.size z26 ⟨movedL p.hs[m].ros (first : Int), p.hs[m].rub, start, ft, fa, bb⟩, .eq (.int .i64 0), .any] [] (MPred.boxP P2 W6.heap.size z26 ⟨movedL p.hs[m].ros (first : Int), p.hs[m].rub, start, ft, fa, bb⟩) (fun _ _ => False) (by kernel_rfl) (by kernel_rfl) (by kernel_rfl) (by kernel_rfl) ?_ (fun _ _ _ _ h => h.elim) ?_
           ·simp only [List.take_succ_cons, List.take_zero]
            refine oneSteps_N (by decide) ⟨rfl, fun xv W hR hf Q hK _ => ?_⟩ (oneSteps_N (by decide) ⟨rfl, fun xv W hR hf Q hK _ => ?_⟩ (oneSteps_N (by decide) ⟨rfl, fun xv W hR hf Q hK _ => ?_⟩ (oneSteps_N (by decide) ⟨rfl, fun xv W hR hf Q hK _ => ?_⟩ (oneSteps_N (by decide) ⟨rfl, fun xv W hR hf Q hK _ => ?_⟩ (oneSteps_N (by decide) ⟨rfl, fun xv W hR hf Q hK _ => ?_⟩ (oneSteps_N (by decide) ⟨rfl, fun xv W hR hf Q hK _ => ?_⟩ (oneSteps_N (by decide) ⟨rfl, fun xv W hR hf Q hK _ => ?_⟩ (oneSteps_N (by decide) ⟨rfl, fun xv W hR hf Q hK _ => ?_⟩ (oneSteps_N (by decide) ⟨rfl, fun xv W hR hf Q hK _ => ?_⟩ (oneSteps_N (by decide) ⟨rfl, fun xv W hR hf Q hK _ => ?_⟩ (oneSteps_N (by decide) ⟨rfl, fun xv W hR hf Q hK _ => ?_⟩ (oneSteps_S (by decide) ⟨rfl, fun xv W hR hf hg Q hK _ => ?_⟩ oneSteps_nil))))))))))))
            ·simp only [fA] at hK ⊢
             go_wp2
             exact hK _ _ lrR rfl trivial
            ·simp only [fA] at hK ⊢
             go_wp2
             exact hK _ _ lrR rfl trivial
            ·obtain ⟨e0, -⟩ := hf
             change _ = _ at e0
             have cc := (pc2 (offRel.blk hR k46'.out (by omega))).2
             simp only [fA, e0] at hK ⊢
             go_wp2
             exact hK _ _ lrR rfl trivial
            ·obtain ⟨e0, -⟩ := hf
             change _ = _ at e0
             simp only [fA, e0] at hK ⊢
             go_wp2_with (fail)
             go_at_call 24
             refine (kcl'.out W hR).mono ?_
             rintro e w' ⟨v', rfl, y1, y2⟩
             have ⟨y1', y2'⟩ := hyd2 y1 y2
             clear y2 y1
             go_wp2
             exact hK _ _ y1'.out y2'.out trivial
            ·simp only [fA] at hK ⊢
             go_wp2
             exact hK _ _ lrR rfl trivial
            ·simp only [fA] at hK ⊢
             go_wp2
             exact hK _ _ lrR rfl trivial
            ·obtain ⟨e0, -⟩ := hf
             change _ = _ at e0
             have cc := (pc5 (offRel.blk hR k16'.out (by omega))).2.1
             simp only [fA, e0] at hK ⊢
             go_wp2
             exact hK _ _ lrR rfl trivial
            ·simp only [fA] at hK ⊢
             go_wp2
             exact hK _ _ lrR rfl trivial
            ·obtain ⟨e0, -⟩ := hf
             change _ = _ at e0
             have cc := (pc5 (offRel.blk hR k16'.out (by omega))).2.2.1
             simp only [fA, e0] at hK ⊢
             go_wp2
             exact hK _ _ lrR rfl trivial
            ·simp only [fA] at hK ⊢
             go_wp2
             exact hK _ _ lrR rfl trivial
            ·obtain ⟨e0, e1, e2, e3, e4, e5, -⟩ := hf
             change _ = _ at e0 e2 e3 e4 e5
             replace e1 : W.ownsRow W6.heap.size 3 1 (xv 3) p.hs[m].rub.length (p.hs[m].rub.map vint) := e1
             obtain ⟨a1, c1, q1⟩ := slice_formR e1
             generalize hqn : p.hs[m].rub.length = n1 at q1 e1
             rw [q1] at e1
             simp only [fA, e0, e2, e3, e4, e5, q1] at hK ⊢
             clear q1
             go_wp2
             exact hK _ _ lrR ⟨_, _, _, rfl, IntsN.off hti'.out hR, by rw [hqn]; exact e1, IntsN.off hbn6'.out hR⟩ trivial
            ·simp only [fA] at hK ⊢
             go_wp2
             exact hK _ _ lrR rfl trivial
            ·obtain ⟨e0, -⟩ := hf
             replace e0 : NewP P2 W6.heap.size W (xv 10) ⟨movedL p.hs[m].ros (first : Int), p.hs[m].rub, start, ft, fa, bb⟩ := e0
             obtain ⟨v0, v1, v5, e10, y0, y1, y5⟩ := e0
             obtain ⟨a0, c0, q0, -⟩ := id y0.1
             obtain ⟨a1, c1, q1⟩ := slice_formR y1
             obtain ⟨a5, c5, q5, -⟩ := id y5.1
             have hpg : NewP P2 W6.heap.size W (xv 10) ⟨movedL p.hs[m].ros (first : Int), p.hs[m].rub, start, ft, fa, bb⟩ := ⟨v0, v1, v5, e10, y0, y1, y5⟩
             dsimp only at q0 q1 q5
             obtain ⟨n0, hn0⟩ : ∃ n, (movedL p.hs[m].ros (first : Int)).length = n := ⟨_, rfl⟩
             obtain ⟨n1, hn1⟩ : ∃ n, p.hs[m].rub.length = n := ⟨_, rfl⟩
             obtain ⟨n5, hn5⟩ : ∃ n, bb.length = n := ⟨_, rfl⟩
             rw [hn0] at q0
             rw [hn1] at q1
             rw [hn5] at q5
             clear hn0 hn1 hn5
             subst q0 q1 q5
             rw [e10] at hpg
             have hk9 := blk hR k26'.out
             have fg0 := pfrz hk9 0
             have fg1 := pfrz hk9 1
             have fg2 := pfrz hk9 2
             have fg3 := pfrz hk9 3
             have fg4 := pfrz hk9 4
             have fg5 := pfrz hk9 5
             obtain ⟨x0, x1, x2, x3, x4, x5⟩ := pc6 hk9
             have hto := set6_off W P2 (.slice a0 n0 c0) (.slice a1 n1 c1) (.int .i64 start) (.int .i64 ft) (.int .i64 fa) (.slice a5 n5 c5)
             have hpo := NewP.off hpg hto z26
             have kpo := pset6 hk9 (.slice a0 n0 c0) (.slice a1 n1 c1) (.int .i64 start) (.int .i64 ft) (.int .i64 fa) (.slice a5 n5 c5)
             simp only [fA, e10] at hK ⊢
             clear e10 y0 y1 y5
             have ⟨hpg', hk9', hto', hpo', kpo'⟩ := hyd5 hpg hk9 hto hpo kpo
             clear kpo hpo hto hk9 hpg
             go_wp2
             exact hK undef _ hto'.out trivial ⟨_, _, _, kpo'.out, hpo'.out⟩
           ·intro xv W3 hR hf hO Q' hQ1 _
            have e11 : xv 11 = .int .i64 0 := hf 11 (by decide)
            obtain ⟨v0, v1, v5, k9, hnp⟩ := hO
            dsimp only at k9
            simp only [List.drop_succ_cons, List.drop_zero]
            rw [show List.range 13 = [0, 1, 2, 3, 4, 5, 6, 7, 8, 9, 10, 11, 12] from rfl]
            simp only [fA, e11]
            clear e11 hf
            have hb9 := offRel.below hR hbw6'.out hwP hw6
            have hg9 : NewProg w.heap.size W3 (.agg #[v0, v1, .int .i64 start, .int .i64 ft, .int .i64 fa, v5]) ⟨movedL p.hs[m].ros (first : Int), p.hs[m].rub, start, ft, fa, bb⟩ := by
             obtain ⟨u0, u1, u5, e, a, b, c⟩ := hnp
             exact ⟨u0, u1, u5, e, a.1, own_base b (by omega), c.1⟩
            obtain ⟨a0, c0, q0, -⟩ : ∃ a0 c0, v0 = .slice a0 (movedL p.hs[m].ros (first : Int)).length c0 ∧ True := by
             obtain ⟨u0, u1, u5, e, a, b, c⟩ := hnp
             injection e with e
             injection e with e
             injection e with e1 e
             obtain ⟨x, y, z, -⟩ := a.1
             exact ⟨x, y, e1.trans z, trivial⟩
            have hnp2 := hnp
            obtain ⟨d0, d1, d2, d3, d4, d5⟩ := pc6 k9
            have ⟨hR', k9', hb9', hg9', hnp', hnp2'⟩ := hyd6 hR k9 hb9 hg9 hnp hnp2
            clear hnp2 hnp hg9 hb9 k9 hR
            go_wp2
            refine hQ1 _ _ ?_
            clear hQ1
            go_wp2
            exact bodyPost_ret (v := .tuple #[.agg #[v0, v1, .int .i64 start, .int .i64 ft, .int .i64 fa, v5], .int .i64 0]) (by simp [results, Tryz.results7, go_sem, d0, d1, d2, d3, d4, d5]) rfl ⟨_, by rw [hE6'.out], hb9'.out, by rw [hp0'.out]; exact hg9'.out⟩
--@END33
       ·obtain rfl : first = p.steps := by omega
        have hn9 : ∀ k, k < n + 1 → ∀ j, j < p.steps → bestL L p.steps (k + 1) (j : Int) = none := fun k h2 j hj => by
         by_cases e : k = n
         ·subst e; exact hfnone.out j hj
         ·exact hnone.out k (by omega) j hj
        have hn9' := hyd1 hn9
        clear hn9
        go_wp2
        go_roundw
        case rel => exact ⟨n + 1, by omega, by go_num, hbf, hn9'⟩
        case measure => simp [intOf]; omega
     ·obtain rfl : n = 12 := by omega
      have hsn := simple_none (L := L) (steps := p.steps) (fun k h1 h2 j hj => by have h := hnone.out (k - 1) (by omega) j hj; rwa [show k - 1 + 1 = k by omega] at h)
      have hE6 : simpE p ⟨(m : Int), ft, fa, fl, fi⟩ start = 6 := by rw [hPR'.out none hsn]; rfl
      have hp0 : simpP p ⟨(m : Int), ft, fa, fl, fi⟩ start = ⟨[], [], 0, 0, 0, []⟩ := by unfold simpP; rw [if_pos hE'.out, hL'.out, hsn]
      have hk9 := blk hbn.out k2z'.out
      have hbw9 := bel_set hbwz'.out hbn.out
      obtain ⟨y0, y1, y2, y3, y4, y5⟩ := pc6 hk9
      have fg0 := pfrz hk9 0
      have fg1 := pfrz hk9 1
      have fg2 := pfrz hk9 2
      have fg3 := pfrz hk9 3
      have fg4 := pfrz hk9 4
      have fg5 := pfrz hk9 5
      obtain ⟨W9, hW9, hb9, k9⟩ : ∃ V, ((((((wr.setCell ⟨P2, 0, none⟩ (.slice none 0 0)).setCell ⟨P2, 1, none⟩ (.slice none 0 0)).setCell ⟨P2, 2, none⟩ (.int .i64 0)).setCell ⟨P2, 3, none⟩ (.int .i64 0)).setCell ⟨P2, 4, none⟩ (.int .i64 0)).setCell ⟨P2, 5, none⟩ (.slice none 0 0)) = V ∧ Below w.heap.size w V ∧ V.heap[P2]? = some (.cells #[.slice none 0 0, .slice none 0 0, .int .i64 0, .int .i64 0, .int .i64 0, .slice none 0 0] 38) := ⟨_, rfl, pset6b hbw9 (by omega) _ _ _ _ _ _, pset6 hk9 _ _ _ _ _ _⟩
      obtain ⟨d0, d1, d2, d3, d4, d5⟩ := pc6 k9
      have ⟨hb9', k9', hsn', hE6', hp0', hk9', hbw9'⟩ := hyd7 hb9 k9 hsn hE6 hp0 hk9 hbw9
      clear hbw9 hk9 hp0 hE6 hsn k9 hb9
      go_wp2
      exact bodyPost_ret (v := .tuple #[.agg #[.slice none 0 0, .slice none 0 0, .int .i64 0, .int .i64 0, .int .i64 0, .slice none 0 0], .int .i64 6]) (by simp [results, Tryz.results7, go_sem, d0, d1, d2, d3, d4, d5]) rfl ⟨_, by rw [hE6'.out], hb9'.out, by rw [hp0'.out]; exact zeroProgN _ _⟩
 ·have hE6 : simpE p ⟨fh, ft, fa, fl, fi⟩ start = E := by unfold simpE; rw [hE'.out, if_neg hE0]
  have hp0 : simpP p ⟨fh, ft, fa, fl, fi⟩ start = ⟨[], [], 0, 0, 0, []⟩ := by unfold simpP; rw [if_neg (by rw [hE'.out]; exact hE0)]
  obtain ⟨y0, y1, y2, y3, y4, y5⟩ := pc6 k23
  have fg0 := pfrz k23 0
  have fg1 := pfrz k23 1
  have fg2 := pfrz k23 2
  have fg3 := pfrz k23 3
  have fg4 := pfrz k23 4
  have fg5 := pfrz k23 5
  obtain ⟨W9, hW9, hb9, k9⟩ : ∃ V, ((((((W3.setCell ⟨P2, 0, none⟩ (.slice none 0 0)).setCell ⟨P2, 1, none⟩ (.slice none 0 0)).setCell ⟨P2, 2, none⟩ (.int .i64 0)).setCell ⟨P2, 3, none⟩ (.int .i64 0)).setCell ⟨P2, 4, none⟩ (.int .i64 0)).setCell ⟨P2, 5, none⟩ (.slice none 0 0)) = V ∧ Below w.heap.size w V ∧ V.heap[P2]? = some (.cells #[.slice none 0 0, .slice none 0 0, .int .i64 0, .int .i64 0, .int .i64 0, .slice none 0 0] 38) := ⟨_, rfl, pset6b hbw3 (by omega) _ _ _ _ _ _, pset6 k23 _ _ _ _ _ _⟩
  obtain ⟨d0, d1, d2, d3, d4, d5⟩ := pc6 k9
  have ⟨hb9', k9', hE6', hp0', hb3', hgL', hbw3', k03'⟩ := hyd8 hb9 k9 hE6 hp0 hb3 hgL hbw3 k03
  have ⟨k13', k23'⟩ := hyd2 k13 k23
  clear k23 k13 k03 hbw3 hgL hb3 hp0 hE6 k9 hb9
  go_wp2
  exact bodyPost_ret (v := .tuple #[.agg #[.slice none 0 0, .slice none 0 0, .int .i64 0, .int .i64 0, .int .i64 0, .slice none 0 0], .int .i64 E]) (by simp [results, Tryz.results7, go_sem, d0, d1, d2, d3, d4, d5]) rfl ⟨_, by rw [hE6'.out], hb9'.out, by rw [hp0'.out]; exact zeroProgN _ _⟩
end Go.Proofs.YtphdalgaemefoaaGreat
