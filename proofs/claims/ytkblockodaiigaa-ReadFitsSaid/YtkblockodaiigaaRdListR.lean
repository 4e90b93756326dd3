/- The reference's listed: the first list of shifts. -/
import Derived.Test.YtkblockodaiigaaRdGrid
import Derived.Test.YtkblockodaiigaaRdJoinR
namespace Go.Proofs.Ytkblockodaiigaa
set_option maxRecDepth 100000
set_option maxHeartbeats 1000000
open Go.RowKit
set_option linter.unusedVariables false
set_option linter.unusedSimpArgs false
theorem shiftAt_some {L : List (List Int)} {steps n r s : Nat} {ph all : Int} (h : s < steps) (hs : allowB L steps n r (ph + (s : Int)) all = true) (hb : ∀ t, t < s → allowB L steps n r (ph + (t : Int)) all = false) : shiftAt L steps n r ph all = some s := by
 unfold shiftAt
 rw [List.find?_range_eq_some]
 exact ⟨hs, List.mem_range.2 h, fun j hj => by rw [hb j hj]; rfl⟩
theorem shiftAt_none {L : List (List Int)} {steps n r : Nat} {ph all : Int} (hb : ∀ t, t < steps → allowB L steps n r (ph + (t : Int)) all = false) : shiftAt L steps n r ph all = none := by
 unfold shiftAt
 rw [List.find?_range_eq_none]
 exact fun j hj => by rw [hb j hj]; rfl
def LiI (L : List (List Int)) (steps n : Nat) (first all : Int) (w : World) (r : Nat) (sum : Int) (vo : Value) (W : World) : Prop :=
 Below w.heap.size w W ∧ ∃ ph out, sum = (ph - first) % (steps : Int) ∧ shiftsGo L steps n all (n - 1) 1 first [] = shiftsGo L steps n all (n - r) r ph out ∧ W.ownsRow w.heap.size 3 1 vo out.length (out.map vint) ∧ out.length + 1 = r
theorem mod_shift {first ph s st : Int} (h : 0 < st) : (first + (((ph - first) % st + s) % st)) % st = (ph + s) % st := by
 rw [Int.add_emod_emod, Int.add_comm, Int.add_assoc, Int.emod_add_emod]
 congr 1
 omega
theorem pf_r9_listed (v : Value) (L : List (List Int)) (steps n : Nat) (first all : Int) (w : World) (hv : GridL w v L) (hL : L.length ≤ 1000) (hn : 0 < n) (hn2 : n ≤ 12) (hs : 0 < steps) (hs2 : steps ≤ 96) (hf : 0 ≤ first ∧ first < steps) (hall : 0 ≤ all ∧ all < steps) :
  Calls Try.prog 45 #[v, .int .i64 (steps : Int), .int .i64 (n : Int), .int .i64 first, .int .i64 all] w fun e w' => ∃ v', e = .returned v' ∧ Below w.heap.size w w' ∧ Ints w' v' ((listedL L steps n first all).getD []) ∧ (∀ g, v'.ownBlock = some g → w.heap.size ≤ g) := by
 obtain ⟨A, c, rfl, hlm⟩ := hv.slice
 have hz : ((0 : Nat) : Int) = 0 := rfl
 have hal := fun (r : Nat) (sum : Int) (hr : r < n) (h : 0 ≤ sum ∧ sum < steps) (W : World) (hb : Below w.heap.size w W) => pf_r9_allowed _ L steps n r first sum all W (hv.le hb) hL hn hn2 hr hs hs2 hf h hall
 have ha0 : Calls Try.prog 80 #[.slice A L.length c, .int .i64 (steps : Int), .int .i64 (n : Int), .int .i64 0, .int .i64 first, .int .i64 0, .int .i64 all] w fun e w' => e = .returned (.bool (allowB L steps n 0 first all)) ∧ ∃ q, w' = w.drewN q := by
  have h := hal 0 0 hn ⟨by omega, by omega⟩ w (Below.refl _ _)
  rw [Int.add_zero] at h
  exact h
 obtain ⟨B, hB⟩ : ∃ B, allowB L steps n 0 first all = B := ⟨_, rfl⟩
 rw [hB] at ha0
 have ⟨hv', hal', ha0', hB'⟩ := hyd4 hv hal ha0 hB
 clear hB ha0 hal hv
 cases B with
 | false =>
  have hres : listedL L steps n first all = none := by unfold listedL; rw [hB'.out]; rfl
  have hres' := hyd1 hres
  clear hres
  go_enter Try.func45, Try.ntmps45
  go_wp2_with (first | (go_at_call 80; ((with_reducible refine (ha0'.out).mono ?_); rintro e w' ⟨rfl, q, rfl⟩)))
  go_ret
  exact ⟨_, rfl, below_drewN' (Below.refl _ _) q, by rw [hres'.out]; exact Arr.nil _ _, fun g hg => by cases hg⟩
 | true =>
  go_enter Try.func45, Try.ntmps45
  go_wp2_with (first | (go_at_call 80; ((with_reducible refine (ha0'.out).mono ?_); rintro e w' ⟨rfl, q, rfl⟩)))
  have hI0 : LiI L steps n first all w 1 0 (.slice none 0 0) (w.drewN q) := ⟨below_drewN' (Below.refl _ _) q, first, [], by rw [Int.sub_self]; simp, rfl, World.ownsRow_nil _ _ _ _, rfl⟩
  have hI0' := hyd1 hI0
  clear hI0
  generalize w.drewN q = w1 at hI0' ⊢
  go_loopw [13, 12, 11] (fun rx sx vo wr => ∃ (r : Nat) (sum : Int), r ≤ n ∧ 1 ≤ r ∧ rx = .int .i64 (r : Int) ∧ sx = .int .i64 sum ∧ Hid (LiI L steps n first all w r sum vo wr)) (fun rx _ _ _ => n - (intOf rx).toNat)
  case atStart => exact ⟨1, 0, by omega, by omega, rfl, rfl, hI0'⟩
  case round =>
   obtain ⟨r, sum, hr, hr1, rfl, rfl, hI⟩ := hrel
   obtain ⟨hbw, ph, out, hsum, hgo, hown, hlen⟩ := hI.out
   have hs0 := Int.emod_nonneg (ph - first) (show (steps : Int) ≠ 0 by omega)
   have hs1 := Int.emod_lt_of_pos (ph - first) (show (0 : Int) < steps by omega)
   rw [← hsum] at hs0 hs1
   obtain ⟨AO, cO, rfl⟩ := slice_formR hown
   have hl1 : out.length + 1 ≤ r := by omega
   have hl2 : r ≤ out.length + 1 := by omega
   clear hlen
   by_cases hlt : r < n
   ·have j1 : (r : Int) < (n : Int) := by omega
    have ⟨hI', hbw', hsum', hgo', hown'⟩ := hyd5 hI hbw hsum hgo hown
    clear hown hgo hsum hbw hI
    go_wp2
    rename World => wo
    go_loopw [14] (fun sx wr => ∃ s : Nat, s ≤ steps ∧ sx = .int .i64 (s : Int) ∧ Hid (Below wo.heap.size wo wr ∧ wr.ownsRow w.heap.size 3 1 (.slice AO out.length cO) out.length (out.map vint)) ∧ Hid (∀ t, t < s → allowB L steps n r (ph + (t : Int)) all = false)) (fun sx _ => steps - (intOf sx).toNat)
    case atStart => exact ⟨0, Nat.zero_le _, rfl, Lib.hid ⟨Below.refl _ _, hown'.out⟩, Lib.hid fun t h => absurd h (Nat.not_lt_zero t)⟩
    case round =>
     obtain ⟨s, hss, rfl, hJ, hno⟩ := hrel
     obtain ⟨hbv, hownv⟩ := hJ.out
     have hbE := bel_set hbw'.out hbv
     by_cases hls : s < steps
     ·have k1 : (s : Int) < (steps : Int) := by omega
      obtain ⟨x, hx⟩ : ∃ x, (sum + (s : Int)) % (steps : Int) = x := ⟨_, rfl⟩
      have hx0 := Int.emod_nonneg (sum + (s : Int)) (show (steps : Int) ≠ 0 by omega)
      have hx1 := Int.emod_lt_of_pos (sum + (s : Int)) (show (0 : Int) < steps by omega)
      rw [hx] at hx0 hx1
      have kal := hal'.out r x hlt ⟨hx0, hx1⟩ wr hbE
      have hmod : allowB L steps n r (first + x) all = allowB L steps n r (ph + (s : Int)) all := allowB_mod (by rw [← hx, hsum'.out]; exact mod_shift (by omega))
      rw [hmod] at kal
      obtain ⟨B, hB⟩ : ∃ B, allowB L steps n r (ph + (s : Int)) all = B := ⟨_, rfl⟩
      rw [hB] at kal
      have k2 : ¬ (steps : Int) = 0 := by omega
      have k3 : 0 ≤ sum + (s : Int) := by omega
      have ⟨hJ', hno', hbv', hownv', hbE', kal', hmod', hB'⟩ := hyd8 hJ hno hbv hownv hbE kal hmod hB
      clear hB hmod kal hbE hownv hbv hno hJ
      cases B with
      | false =>
       go_wp2_with (first | (go_at_call 80; ((with_reducible refine (kal'.out).mono ?_); rintro e w' ⟨rfl, hq⟩)))
       obtain ⟨q2, rfl⟩ := hq
       go_roundw
       case rel => exact ⟨s + 1, by omega, by go_num, Lib.hid ⟨below_drewN' hbv'.out q2, hownv'.out⟩, Lib.hid fun t ht => by
        by_cases e : t = s
        ·subst e; exact hB'.out
        ·exact hno'.out.out t (by omega)⟩
       case measure => simp [intOf]; omega
      | true =>
       have hsz := hbE'.out.size
       have hsome := shiftAt_some hls hB'.out hno'.out.out
       have hgo2 : shiftsGo L steps n all (n - 1) 1 first [] = shiftsGo L steps n all (n - (r + 1)) (r + 1) (ph + (s : Int)) (out ++ [(s : Int)]) := by
        rw [hgo'.out, show n - r = (n - (r + 1)) + 1 by omega]
        conv => lhs; unfold shiftsGo
        rw [hsome]
       have hx2 : x = (ph + (s : Int) - first) % (steps : Int) := by
        rw [← hx, hsum'.out, Int.emod_add_emod]; congr 1; omega
       have ⟨hsome', hgo2', hx2'⟩ := hyd3 hsome hgo2 hx2
       clear hx2 hgo2 hsome
       go_wp2_with (first | (go_at_call 80; ((with_reducible refine (kal'.out).mono ?_); rintro e w' ⟨rfl, hq⟩; obtain ⟨q2, rfl⟩ := hq)) | (at_builtin; go_must (refine wpList_appI rfl _ _ 36 rfl w.heap.size 3 elemInt _ out rfl ((own_drewN hownv'.out _).alloc _) _ [(s : Int)] rfl (one_newI _ _ _) (by simp; omega) (by simp; omega) ?_)))
       intro v3 w3 h1 h2 h3 _
       obtain ⟨A3, c3, rfl⟩ := slice_formR h1
       have hb3 : Below w.heap.size w w3 := (((below_drewN' hbE'.out q2).alloc (Nat.le_trans hsz (by simp)) _).trans h2)
       have hI3 : LiI L steps n first all w (r + 1) x (.slice A3 (out.length + 1) c3) w3 := ⟨hb3, ph + (s : Int), out ++ [(s : Int)], hx2'.out, hgo2'.out, by simpa using h1, by simp; omega⟩
       have ⟨h1', h2', h3', hb3', hI3'⟩ := hyd5 h1 h2 h3 hb3 hI3
       clear hI3 hb3 h3 h2 h1
       go_wp2
       go_roundw
       case rel => exact ⟨r + 1, x, by omega, by omega, by go_num, by rw [hx], hI3'⟩
       case measure => simp [intOf]; omega
     ·obtain rfl : s = steps := by omega
      have hnone := shiftAt_none hno.out
      have hres : listedL L s n first all = none := by
       unfold listedL
       rw [hB'.out, hgo'.out, show n - r = (n - (r + 1)) + 1 by omega]
       conv => lhs; unfold shiftsGo
       rw [hnone]
       rfl
      have ⟨hJ', hno', hbv', hownv', hbE', hnone', hres'⟩ := hyd7 hJ hno hbv hownv hbE hnone hres
      clear hres hnone hbE hownv hbv hno hJ
      go_wp2
      go_ret
      exact ⟨_, rfl, hbE'.out, by rw [hres'.out]; exact Arr.nil _ _, fun g hg => by cases hg⟩
   ·obtain rfl : r = n := by omega
    have hres : listedL L steps r first all = some (out ++ [(all - (ph - first)) % (steps : Int)]) := by
     unfold listedL
     rw [hB'.out, hgo, Nat.sub_self]
     rfl
    have hlast : (all - sum) % (steps : Int) = (all - (ph - first)) % (steps : Int) := by rw [hsum, Int.sub_emod_emod]
    obtain ⟨y, hy⟩ : ∃ y, (all - (ph - first)) % (steps : Int) = y := ⟨_, rfl⟩
    rw [hy] at hres hlast
    have kar : ∀ W : World, Calls Try.prog 75 #[.int .i64 (all - sum), .int .i64 (steps : Int)] W fun e w' => e = .returned (.int .i64 y) ∧ W = w' := fun W => by
     have := pf_r3_Around (all - sum) (steps : Int) W (by omega) (by omega) ⟨by omega, by omega⟩
     rwa [hlast] at this
    have hsz := hbw.size
    have ho2 : out.length ≤ 12 := by omega
    have ⟨hI', hbw', hsum', hgo', hown', hres', hlast', hy'⟩ := hyd8 hI hbw hsum hgo hown hres hlast hy
    have kar' := hyd1 kar
    clear kar hy hlast hres hown hgo hsum hbw hI
    go_wp2_with (first | (go_at_call 75; ((with_reducible refine (kar'.out _).mono ?_); rintro e w' ⟨rfl, rfl⟩)) | (at_builtin; go_must (refine wpList_appI rfl _ _ 36 rfl w.heap.size 3 elemInt _ out rfl (hown'.out.alloc _) _ [y] rfl (one_newI _ _ _) (by simp; omega) (by simp; omega) ?_)))
    intro v3 w3 h1 h2 h3 _
    have hb3 : Below w.heap.size w w3 := (hbw'.out.alloc (Nat.le_trans hsz (Nat.le_refl _)) _).trans h2
    have hi3 : Ints w3 v3 (out ++ [y]) := Arr.of_own (xs := out ++ [y]) (n := out.length + 1) (by simpa using h1)
    have ⟨h1', h2', h3', hb3', hi3'⟩ := hyd5 h1 h2 h3 hb3 hi3
    clear hi3 hb3 h3 h2 h1
    go_wp2
    go_ret
    exact ⟨_, rfl, hb3'.out, by rw [hres'.out]; exact hi3'.out, fun g hg => (h1'.out.lt g hg).1⟩
end Go.Proofs.Ytkblockodaiigaa
