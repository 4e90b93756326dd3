/- The program's table: shifts. -/
import Derived.Test.YtkblockodaiigaaRdShW
import Derived.Deep.LoopGhost
import Derived.Deep.RegionHeld3
namespace Go.Proofs.Ytkblockodaiigaa
set_option maxRecDepth 100000
set_option maxHeartbeats 1000000
open Go.RowKit
set_option linter.unusedVariables false
set_option linter.unusedSimpArgs false
theorem wpList_cap (w : World) {ops : Array Oper} {rest : List Oper} {o : Oper} {a : Act} {Q : Exit → Act → World → Prop}
  (hg : o.guard = none) (l c : Operand) (hop : o.op = Op.makeSlice 36 l c) (base n : Nat) (hl : a.eval l = .int .i64 0) (hc : a.eval c = .int .i64 (n : Int)) (hn : n ≤ 1000000000) (b4 : base ≤ w.heap.size)
  (hK : ∀ w', w'.ownsRow base 3 1 (.slice (some ⟨w.heap.size, 0, none⟩) 0 n) 0 [] → Below w.heap.size w w' → wpList Try.prog ops Q rest (a.put o.dst (.slice (some ⟨w.heap.size, 0, none⟩) 0 n)) w') :
  wpList Try.prog ops Q (o :: rest) a w := by
 obtain ⟨ht, hi, hzs⟩ := elemInt
 obtain ⟨i, hi0, hz, hsz, hby'⟩ := info_parts hi
 refine wpList_make_own w hg l c _ hop base _ i _ 1 ht hi0 hz hsz .i64 .i64 (n : Int) n hl hc rfl (by rw [hby']; omega) (by unfold maxLen; omega) b4 ?_
 intro w' h1 h2
 exact hK w' h1 ((Below.refl _ _).grown h2 (Nat.le_refl _) (by simp))
theorem allowB_add {L : List (List Int)} {steps n r : Nat} {all : Int} {q : Int} {ph s : Nat} (h : (ph : Int) = q % (steps : Int)) : allowB L steps n r (((ph + s) % steps : Nat) : Int) all = allowB L steps n r (q + (s : Int)) all :=
 allowB_mod (by rw [Int.natCast_emod, Int.emod_emod, Int.natCast_add, h, Int.emod_add_emod])
def ShI (L : List (List Int)) (steps n : Nat) (first all : Int) (W0 : World) (r ph : Nat) (vo : Value) (W : World) : Prop :=
 Below W0.heap.size W0 W ∧ ∃ q out, (ph : Int) = q % (steps : Int) ∧ shiftsGo L steps n all (n - 1) 1 first [] = shiftsGo L steps n all (n - r) r q out ∧ W.ownsRow W0.heap.size 3 1 vo out.length (out.map vint) ∧ out.length + 1 = r ∧ vo.ownBlock ≠ none
theorem pf_rd_shifts (v : Value) (L : List (List Int)) (steps n first sum : Nat) (w : World) (hv : GridB w v (tabL steps L)) (hL : L.length ≤ 1000) (hn : 0 < n) (hn2 : n ≤ 12) (hs : 0 < steps) (hs2 : steps ≤ 96) (hf : first < steps) (hsum : sum < steps) :
  Calls Try.prog 41 #[.agg #[.int .i64 (steps : Int), v], .int .i64 (n : Int), .int .i64 (first : Int), .int .i64 (sum : Int)] w fun e w' => ∃ v' b, e = .returned (.tuple #[v', .bool b]) ∧ b = (listedL L steps n (first : Int) (sum : Int)).isSome ∧ Below w.heap.size w w' ∧ (b = true → Ints w' v' ((listedL L steps n (first : Int) (sum : Int)).getD []) ∧ ∃ g l c, v' = .slice (some ⟨g, 0, none⟩) l c ∧ w.heap.size ≤ g) := by
 obtain ⟨A, c, rfl, hlm⟩ := hv.slice
 rw [tabL_length] at hv hlm ⊢
 unfold maxLen at hlm
 have hv9 := hv
 obtain ⟨W0, hW0, hb0, k0⟩ := newb w (.cells #[.int .i64 (steps : Int), .slice A L.length c] 94)
 obtain ⟨c0, c1⟩ := pc2 k0
 have hv0 := hv9.le hb0
 have z0 : w.heap.size < W0.heap.size := gsl k0
 have kfr := fun (W : World) (r ph : Nat) (hr : r ≤ 12) (hph : ph < steps) (h : Below W0.heap.size W0 W) => pf_rd_free _ L steps n r ph sum W (hv0.le h) hL hn hn2 hr hs hs2 hph hsum
 have ⟨hv', hv9', hb0', k0', hv0', kfr'⟩ := hyd6 hv hv9 hb0 k0 hv0 kfr
 clear kfr hv0 k0 hb0 hv9 hv
 go_enter Try.func41, Try.ntmps41
 go_wp2_with (fail)
 go_step3
 go_wp2_with (first | (at_make; go_must (refine wpList_cap _ rfl _ _ rfl W0.heap.size n rfl rfl (by omega) (Nat.le_refl _) ?_)) | fail)
 intro w1 ho1 hb1
 have hI0 : ShI L steps n (first : Int) (sum : Int) W0 1 first (.slice (some ⟨W0.heap.size, 0, none⟩) 0 n) w1 := ⟨hb1, (first : Int), [], (emod_small hf).symm, rfl, ho1, rfl, by simp [Value.ownBlock]⟩
 clear c0 c1 hW0
 have ⟨hI0', ho1', hb1'⟩ := hyd3 hI0 ho1 hb1
 clear hb1 ho1 hI0
 go_wp2_with (fail)
 go_step3
 go_wp2_with (fail)
 go_loopg [12, 11, 10] (n - 1) (fun g rx px vo wr => ∃ r ph : Nat, r + g = n ∧ 1 ≤ r ∧ r ≤ n ∧ ph < steps ∧ rx = .int .i64 (r : Int) ∧ px = .int .i64 (ph : Int) ∧ Hid (ShI L steps n (first : Int) (sum : Int) W0 r ph vo wr))
 case atStart => exact ⟨1, first, by omega, by omega, by omega, hf, rfl, rfl, hI0'⟩
 case round =>
  obtain ⟨r, ph, hrg, hr1, hrn, hph, rfl, rfl, hI⟩ := hrel
  obtain ⟨hbw, q, out, hq, hgo, hown, hlen, hob⟩ := hI.out
  obtain ⟨gO, cO, rfl, hg1, hg2, hg3, hg4⟩ := own_formS hown hob
  have hl1 : out.length + 1 ≤ r := by omega
  have hl2 : r ≤ out.length + 1 := by omega
  clear hlen
  have kw := blk hbw k0'.out
  obtain ⟨c0, c1⟩ := pc2 kw
  by_cases hlt : r < n
  ·have j1 : (r : Int) < (n : Int) := by omega
   have ⟨hI', hbw', hq', hgo', hown', kw', hob'⟩ := hyd7 hI hbw hq hgo hown kw hob
   clear hob kw hown hgo hq hbw hI
   go_wp2_with (fail)
   rename World => wo
   go_loopg [25, 11, 10] steps (fun g sx px vo wr => ∃ s : Nat, s + g = steps ∧ s ≤ steps ∧ sx = .int .i64 (s : Int) ∧ px = .int .i64 (ph : Int) ∧ vo = .slice (some ⟨gO, 0, none⟩) out.length cO ∧ Hid (Below wo.heap.size wo wr) ∧ Hid (∀ t, t < s → allowB L steps n r (q + (t : Int)) (sum : Int) = false))
   case atStart => exact ⟨0, by omega, Nat.zero_le _, rfl, rfl, rfl, Lib.hid (Below.refl _ _), Lib.hid fun t h => absurd h (Nat.not_lt_zero t)⟩
   case round =>
    obtain ⟨s, hsg, hss, rfl, rfl, rfl, hbv, hno⟩ := hrel
    have hbE := hbw'.out.trans (hbv.out.mono hbw'.out.size)
    have kv := blk hbv.out kw'.out
    have hownv := own_below hown'.out hbv.out
    clear c0 c1
    obtain ⟨c0, c1⟩ := pc2 kv
    by_cases hls : s < steps
    ·have k1 : (s : Int) < (steps : Int) := by omega
     obtain ⟨x, hx⟩ : ∃ x : Nat, (ph + s) % steps = x := ⟨_, rfl⟩
     have hx1 : x < steps := by rw [← hx]; exact Nat.mod_lt _ hs
     have hx2 : ((ph : Int) + (s : Int)) % (steps : Int) = (x : Int) := by rw [← hx]; push_cast; rfl
     have kal := kfr'.out wr r x (by omega) hx1 hbE
     have hmod : allowB L steps n r (x : Int) (sum : Int) = allowB L steps n r (q + (s : Int)) (sum : Int) := by rw [← hx]; exact allowB_add hq'.out
     rw [hmod] at kal
     obtain ⟨B, hB⟩ : ∃ B, allowB L steps n r (q + (s : Int)) (sum : Int) = B := ⟨_, rfl⟩
     rw [hB] at kal
     have k2 : ¬ (steps : Int) = 0 := by omega
     have k3 : 0 ≤ (ph : Int) + (s : Int) := by omega
     rw [← hx2] at kal
     have ⟨hno', hbv', hownv', hbE', kal', hmod', hB', kv'⟩ := hyd8 hno hbv hownv hbE kal hmod hB kv
     have ⟨hx', hx2'⟩ := hyd2 hx hx2
     clear hx2 hx kv hB hmod kal hbE hownv hbv hno
     cases B with
     | false =>
      go_wp2_with (fail)
      go_at_call 76
      refine kal'.out.mono ?_
      rintro e w5 ⟨rfl, hb5⟩
      have hbn := bel_set hbv'.out.out hb5
      have hn5 : ∀ t, t < s + 1 → allowB L steps n r (q + (t : Int)) (sum : Int) = false := fun t ht => by
       by_cases e : t = s
       ·subst e; exact hB'.out
       ·exact hno'.out.out t (by omega)
      have ⟨hb5', hbn', hn5'⟩ := hyd3 hb5 hbn hn5
      clear hn5 hbn hb5
      go_wp2
      go_roundg (steps - (s + 1))
      case rel => exact ⟨s + 1, by omega, by omega, by go_num, rfl, rfl, hbn', hn5'⟩
      case measure => omega
     | true =>
      have hsome := shiftAt_some hls hB'.out hno'.out.out
      have hgo2 : shiftsGo L steps n (sum : Int) (n - 1) 1 (first : Int) [] = shiftsGo L steps n (sum : Int) (n - (r + 1)) (r + 1) (q + (s : Int)) (out ++ [(s : Int)]) := by
       rw [hgo'.out, show n - r = (n - (r + 1)) + 1 by omega]
       conv => lhs; unfold shiftsGo
       rw [hsome]
      have hq2 : (x : Int) = (q + (s : Int)) % (steps : Int) := by rw [← hx2'.out, hq'.out, Int.emod_add_emod]
      have ⟨hsome', hgo2', hq2'⟩ := hyd3 hsome hgo2 hq2
      clear hq2 hgo2 hsome
      go_wp2_with (fail)
      go_at_call 76
      refine kal'.out.mono ?_
      rintro e w5 ⟨rfl, hb5⟩
      have hbE5 := hbE'.out.trans (hb5.mono hbE'.out.size)
      have hown5 := own_below hownv'.out hb5
      have hsz5 := hbE5.size
      have ⟨hb5', hbE5', hown5'⟩ := hyd3 hb5 hbE5 hown5
      clear hown5 hbE5 hb5
      go_wp2_with (first | (at_builtin; go_must (refine wpList_appI rfl _ _ 36 rfl W0.heap.size 3 elemInt _ out rfl (hown5'.out.alloc _) _ [(s : Int)] rfl (one_newI _ _ _) (by simp; omega) (by simp; omega) ?_)))
      intro v3 w3 h1 h2 h3 h4
      have hb3 : Below W0.heap.size W0 w3 := (hbE5'.out.alloc hsz5 _).trans h2
      have hob3 : v3.ownBlock ≠ none := fun e => h4 e
      have hI3 : ShI L steps n (first : Int) (sum : Int) W0 (r + 1) x v3 w3 := ⟨hb3, q + (s : Int), out ++ [(s : Int)], hq2'.out, hgo2'.out, by simpa using h1, by simp; omega, hob3⟩
      have ⟨h1', h2', h3', h4', hb3', hob3', hI3'⟩ := hyd7 h1 h2 h3 h4 hb3 hob3 hI3
      clear hI3 hob3 hb3 h4 h3 h2 h1
      go_wp2
      go_roundg (n - (r + 1))
      case rel => exact ⟨r + 1, x, by omega, by omega, by omega, hx1, by go_num, by rw [hx2'.out], hI3'⟩
      case measure => omega
    ·obtain rfl : s = steps := by omega
     have hnone := shiftAt_none hno.out
     have hres : listedL L s n (first : Int) (sum : Int) = none := by
      unfold listedL
      split
      ·rw [hgo'.out, show n - r = (n - (r + 1)) + 1 by omega]
       conv => lhs; unfold shiftsGo
       rw [hnone]
      ·rfl
     have hbR := bel_set hb0'.out hbE
     have ⟨hno', hbv', hownv', hbE', hnone', hres', kv', hbR'⟩ := hyd8 hno hbv hownv hbE hnone hres kv hbR
     clear hbR kv hres hnone hbE hownv hbv hno
     go_wp2
     try rw [Exit.noGoto_ret]
     go_ret2
     exact ⟨_, _, rfl, by rw [hres'.out]; rfl, hbR'.out, fun e => by cases e⟩
  ·obtain rfl : r = n := by omega
   obtain ⟨B, hB⟩ : ∃ B, allowB L steps r 0 (first : Int) (sum : Int) = B := ⟨_, rfl⟩
   have kf0 : ∀ W, Below W0.heap.size W0 W → Calls Try.prog 76 #[.agg #[.int .i64 (steps : Int), .slice A L.length c], .int .i64 0, .int .i64 (r : Int), .int .i64 (first : Int), .int .i64 (sum : Int)] W fun e w' => e = .returned (.bool B) ∧ Below W.heap.size W w' := fun W h => by
    have h := kfr'.out W 0 first (by omega) hf h
    rw [hB] at h
    exact h
   have hres : listedL L steps r (first : Int) (sum : Int) = if B = true then some (out ++ [((sum : Int) - (q - (first : Int))) % (steps : Int)]) else none := by
    unfold listedL
    rw [hB, hgo, Nat.sub_self]
    rfl
   have hy : ((first : Int) + (sum : Int) - (ph : Int)) % (steps : Int) = ((sum : Int) - (q - (first : Int))) % (steps : Int) := by
    rw [← last_shift (by omega), hq, Int.add_emod_right]
   have hS : ∀ W, Below W0.heap.size W0 W → W.cell? ⟨w.heap.size, 0, none⟩ = some (.int .i64 (steps : Int)) ∧ W.cell? ⟨w.heap.size, 1, none⟩ = some (.slice A L.length c) := fun W h => pc2 (blk h k0'.out)
   have hbq : Below W0.heap.size W0 wr.drew := hbw.drew
   have hsz := hbw.size
   have k2 : ¬ (steps : Int) = 0 := by omega
   have k3 : 0 ≤ (first : Int) + (sum : Int) - (ph : Int) + (steps : Int) := by omega
   have i9 : ¬ steps = 0 := by omega
   have i10 : (0 : Int) < (steps : Int) := by omega
   have ⟨hI', hgo', hown', kw', hob', kf0', hres', hy'⟩ := hyd8 hI hgo hown kw hob kf0 hres hy
   have ⟨hS', hB', hq'⟩ := hyd3 hS hB hq
   clear hq hB hS hy hres kf0 hob kw hown hgo hI
   go_wp2_with (fail)
   go_region_held3 (fun w' => w'.cell? ⟨w.heap.size, 0, none⟩ = some (.int .i64 (steps : Int)) ∧ w'.cell? ⟨w.heap.size, 1, none⟩ = some (.slice A L.length c)) (go_keep) (first | (go_at_call 76; with_reducible refine (kf0'.out _ (by first | exact hbq | exact hbq.alloc (by simp; omega) _ | exact hbq3)).mono ?_; rintro e w9 ⟨rfl, hb9⟩; have hbq9 : Below W0.heap.size W0 w9 := (by first | exact hbq.trans (hb9.mono (by simp; omega)) | exact (hbq.alloc (by simp; omega) _).trans (hb9.mono (by simp; omega)) | exact hbq3.trans (hb9.mono hbq3.size)); obtain ⟨t1, t2⟩ := hS'.out _ hbq9) | (refine step_appI rfl (.tmp 46) (.tmp 58) 36 (by rfl) W0.heap.size 3 elemInt _ out (by rfl) (by first | exact hown'.out.alloc _ | exact (own_below hown'.out hb9).alloc _ | exact own_below (hown'.out.alloc _) hb9) (.slice (some ⟨_, 0, none⟩) 1 1) [_] (by rfl) (by first | exact one_newD _ _ _ | exact one_newI _ _ _ | exact Arr.below (one_newD _ _ _) hb9 | exact Arr.below (one_newI _ _ _) hb9) (by simp; omega) (by first | (simp; omega) | exact Nat.le_trans hbq9.size (by simp) | exact hbq9.size) ?_; intro v3 w3 h1 h2 h3 h4; have hbq3 : Below W0.heap.size W0 w3 := (by first | exact (hbq.alloc (by simp; omega) _).trans h2 | exact (hbq9.alloc hbq9.size _).trans h2); obtain ⟨s1, s2⟩ := hS'.out _ hbq3; have h1' := Lib.hid h1; have h4' := Lib.hid h4; clear h1 h3 h4))
   all_goals
    have hyw : (IntKind.i64.wrap (IntKind.i64.wrap (IntKind.i64.wrap ((first : Int) + (sum : Int)) - (ph : Int)) + (steps : Int))).tmod (steps : Int) = ((sum : Int) - (q - (first : Int))) % (steps : Int) := by
     rw [IntWalk.i64_in ((first : Int) + (sum : Int)) (by omega), IntWalk.i64_in ((first : Int) + (sum : Int) - (ph : Int)) (by omega), IntWalk.i64_in ((first : Int) + (sum : Int) - (ph : Int) + (steps : Int)) (by omega), Int.tmod_eq_emod_of_nonneg (by omega), Int.add_emod_right]
     exact hy'.out
    have h1 := h1'.out
    have h4 := h4'.out
    rw [hyw] at h1
    have hob3 : v3.ownBlock ≠ none := fun e => by have := (h4.1 e).2; cases this
    obtain ⟨g3, c3, rfl, hg31, -, -, -⟩ := own_formS h1 hob3
    have hfin : Ints w9 (.slice (some ⟨g3, 0, none⟩) (out ++ [((sum : Int) - (q - (first : Int))) % (steps : Int)]).length c3) (out ++ [((sum : Int) - (q - (first : Int))) % (steps : Int)]) := (own_ints h1).below hb9
    have hbR := bel_set hb0'.out hbq9
    have hzg : w.heap.size ≤ g3 := by omega
    clear hyw h4 h1 h1' h4'
    have ⟨hfin', hbR', hb9', hbq9'⟩ := hyd4 hfin hbR hb9 hbq9
    clear hbq9 hb9 hbR hfin
    go_wp2
    try rw [Exit.noGoto_ret]
    go_ret2
    exact ⟨_, B, rfl, by rw [hres'.out]; cases B <;> rfl, hbR'.out, fun e => ⟨by rw [hres'.out, if_pos e]; exact hfin'.out, _, _, _, rfl, hzg⟩⟩

end Go.Proofs.Ytkblockodaiigaa
