/- The chapter's example, plain. alive: the chapter's example runs as it says. alive: the walk. -/
import Derived.Test.YtkblockodaiigaaReadLaw3
import Derived.Test.YtkblockodaiigaaRdFind
import Derived.Test.YtkblockodaiigaaRdConf
import Derived.Test.YtkblockodaiigaaRdSimV
import Derived.Test.YtkblockodaiigaaRdSameF
import Derived.Test.YtkblockodaiigaaRdSameP
import Derived.Test.YtkblockodaiigaaReb
namespace Go.Proofs.Ytkblockodaiigaa
set_option maxRecDepth 100000
set_option maxHeartbeats 1000000
set_option linter.unusedVariables false
def exP : Pic := ⟨[⟨[0, 3, 0, 0, 3, 0], [0]⟩], 1, 2, 10, 10, [⟨0, 0, 100, 100⟩, ⟨0, 1, 106, 106⟩, ⟨0, 2, 100, 100⟩, ⟨1, 2, 116, 116⟩]⟩
def exQ : Pic := ⟨[⟨[0, 3, 0, 0, 3, 0], [0]⟩], 1, 2, 10, 10, [⟨0, 0, 100, 100⟩, ⟨0, 1, 106, 106⟩, ⟨0, 2, 100, 100⟩, ⟨1, 2, 116, 116⟩, ⟨1, 5, 110, 110⟩]⟩
theorem ex_picB : picB exP = true := by kernel_rfl
theorem ex_findL : foundL exP = [⟨0, 2, 10, 100, 100⟩] := by kernel_rfl
theorem ex_conf : confGo exQ 5 (idxL 5) = [3, 4] := by kernel_rfl
theorem ex_some : someP exQ (idxL 5) = false := by kernel_rfl
end Go.Proofs.Ytkblockodaiigaa
namespace Go.Proofs.Ytkblockodaiigaa
set_option maxRecDepth 100000
set_option maxHeartbeats 1000000
open Go.RowKit Go.Shelf
set_option linter.unusedVariables false
set_option linter.unusedSimpArgs false
theorem own_block {W : World} {base e size b n : Nat} {cs : List Value} (h : W.heap[b]? = some (.cells cs.toArray e)) (hb : base ≤ b) (hl : cs.length = n * size) (hm : n ≤ maxLen) : W.ownsRow base e size (.slice (some ⟨b, 0, none⟩) n n) n cs :=
 ⟨hl, .inr ⟨b, n, cs.toArray, rfl, hb, h, Nat.le_refl _, hm, by simpa using hl, by simp [← hl]⟩⟩
theorem ints_block {W : World} {b e : Nat} (xs : List Int) (n : Nat) (hn : xs.length = n) (h : W.heap[b]? = some (.cells (xs.map vint).toArray e)) (hm : n ≤ maxLen) : Ints W (.slice (some ⟨b, 0, none⟩) n n) xs := by
 subst hn
 exact Arr.of_own (own_block (base := 0) (size := 1) h (Nat.zero_le _) (by simp) hm)
theorem pset5 {W : World} {X : Nat} {a b c d e : Value} {t : TypeId} (h : W.heap[X]? = some (Obj.cells #[a, b, c, d, e] t)) (u0 u1 u2 u3 u4 : Value) : (((((W.setCell ⟨X, 0, none⟩ u0).setCell ⟨X, 1, none⟩ u1).setCell ⟨X, 2, none⟩ u2).setCell ⟨X, 3, none⟩ u3).setCell ⟨X, 4, none⟩ u4).heap[X]? = some (.cells #[u0, u1, u2, u3, u4] t) := by
 simp only [World.setCell, Array.getElem?_modify, h]
 simp
theorem pset5b {n : Nat} {w W : World} {X : Nat} (h : Below n w W) (hX : n ≤ X) (u0 u1 u2 u3 u4 : Value) : Below n w (((((W.setCell ⟨X, 0, none⟩ u0).setCell ⟨X, 1, none⟩ u1).setCell ⟨X, 2, none⟩ u2).setCell ⟨X, 3, none⟩ u3).setCell ⟨X, 4, none⟩ u4) :=
 ((((Below.setCell h (p := ⟨X, 0, none⟩) hX _).setCell (p := ⟨X, 1, none⟩) hX _).setCell (p := ⟨X, 2, none⟩) hX _).setCell (p := ⟨X, 3, none⟩) hX _).setCell (p := ⟨X, 4, none⟩) hX _
theorem pf_l9_example (w : World) : Calls Try.prog 56 #[] w fun e w' => ∃ vh vr z, e = .returned (.agg #[vh, .int .i64 1, .int .i64 2, .int .i64 10, .int .i64 10, vr]) ∧ Below w.heap.size w w' ∧ w.heap.size ≤ z ∧ z ≤ w'.heap.size ∧ (∀ V : World, z ≤ V.heap.size → (∀ b, b < z → V.heap[b]? = w'.heap[b]?) → HeadsL V vh exP.hs) ∧ w'.ownsRow z 65 4 vr 4 (exP.rds.flatMap rdEnc) := by
 obtain ⟨W1, hW1, hb1, k1⟩ := newb w (.cells #[.slice none 0 0, .int .i64 0, .int .i64 0, .int .i64 0, .int .i64 0, .slice none 0 0] 25)
 obtain ⟨W2, hW2, hb2, k2⟩ := newb W1 (.cells #[.int .i64 0, .int .i64 3, .int .i64 0, .int .i64 0, .int .i64 3, .int .i64 0] 3)
 obtain ⟨W3, hW3, hb3, k3⟩ := newb W2 (.cells #[.int .i64 0] 3)
 obtain ⟨W4, hW4, hb4, k4⟩ := newb W3 (.cells #[.slice (some ⟨W1.heap.size, 0, none⟩) 6 6, .slice (some ⟨W2.heap.size, 0, none⟩) 1 1] 58)
 obtain ⟨W5, hW5, hb5, k5⟩ := newb W4 (.cells #[.int .i64 0, .int .i64 0, .int .i64 100, .int .i64 100, .int .i64 0, .int .i64 1, .int .i64 106, .int .i64 106, .int .i64 0, .int .i64 2, .int .i64 100, .int .i64 100, .int .i64 1, .int .i64 2, .int .i64 116, .int .i64 116] 65)
 have hb23 := bel_set hb2 (bel_set hb3 (bel_set hb4 hb5))
 have k15 := blk hb23 k1
 have k25 := blk (bel_set hb3 (bel_set hb4 hb5)) k2
 have k35 := blk (bel_set hb4 hb5) k3
 have k45 := blk hb5 k4
 have hb15 := bel_set hb1 hb23
 have z1 := hb1.size
 have z2 := gsl k2
 have z3 := gsl k3
 have z4 := gsl k4
 have z5 := hb5.size
 have zw := gsl k1
 obtain ⟨c0, c1, c2, c3, c4, c5⟩ := pc6 k15
 have f0 := pfrz k15 0
 have f1 := pfrz k15 1
 have f2 := pfrz k15 2
 have f3 := pfrz k15 3
 have f4 := pfrz k15 4
 have f5 := pfrz k15 5
 have p6 := pset6 k15 (.slice (some ⟨W3.heap.size, 0, none⟩) 1 1) (.int .i64 1) (.int .i64 2) (.int .i64 10) (.int .i64 10) (.slice (some ⟨W4.heap.size, 0, none⟩) 4 4)
 have p6b := pset6b hb15 (Nat.le_refl _) (.slice (some ⟨W3.heap.size, 0, none⟩) 1 1) (.int .i64 1) (.int .i64 2) (.int .i64 10) (.int .i64 10) (.slice (some ⟨W4.heap.size, 0, none⟩) 4 4)
 have hkp := fun {b : Nat} (hb : w.heap.size < b) => set6_kept W5 (.slice (some ⟨W3.heap.size, 0, none⟩) 1 1) (.int .i64 1) (.int .i64 2) (.int .i64 10) (.int .i64 10) (.slice (some ⟨W4.heap.size, 0, none⟩) 4 4) hb
 have hsz := set6_size (n := w.heap.size) W5 (.slice (some ⟨W3.heap.size, 0, none⟩) 1 1) (.int .i64 1) (.int .i64 2) (.int .i64 10) (.int .i64 10) (.slice (some ⟨W4.heap.size, 0, none⟩) 4 4)
 have g2 := (hkp (show w.heap.size < W1.heap.size by omega)).trans k25
 have g3 := (hkp (show w.heap.size < W2.heap.size by omega)).trans k35
 have g4 := (hkp (show w.heap.size < W3.heap.size by omega)).trans k45
 have g5 := (hkp (show w.heap.size < W4.heap.size by omega)).trans k5
 have ⟨hb1', k1', hb2', k2', hb3', k3', hb4', k4'⟩ := hyd8 hb1 k1 hb2 k2 hb3 k3 hb4 k4
 have ⟨hb5', k5', hb23', k15', k25', k35', k45', hb15'⟩ := hyd8 hb5 k5 hb23 k15 k25 k35 k45 hb15
 have ⟨p6', p6b', hsz', g2', g3', g4', g5'⟩ := hyd7 p6 p6b hsz g2 g3 g4 g5
 clear g5 g4 g3 g2 hsz p6b p6 hb15 k45 k35 k25 k15 hb23 k5 hb5 k4 hb4 k3 hb3 k2 hb2 k1 hb1
 clear hkp
 go_enter Try.func56, Try.ntmps56
 go_wp2_with (fail)
 clear c0 c1 c2 c3 c4 c5 f0 f1 f2 f3 f4 f5
 obtain ⟨c0, c1, c2, c3, c4, c5⟩ := pc6 p6'.out
 refine bodyPost_ret (v := .agg #[.slice (some ⟨W3.heap.size, 0, none⟩) 1 1, .int .i64 1, .int .i64 2, .int .i64 10, .int .i64 10, .slice (some ⟨W4.heap.size, 0, none⟩) 4 4]) (by simp [results, Try.results56, go_sem, c0, c1, c2, c3, c4, c5]) rfl ⟨_, _, W4.heap.size, rfl, p6b'.out, by omega, by rw [hsz'.out]; exact hb5'.out.size, fun V hzV hV => ?_, own_block (cs := exP.rds.flatMap rdEnc) g5'.out (Nat.le_refl _) rfl (by decide)⟩
 have v2 := (hV W1.heap.size (by omega)).trans g2'.out
 have v3 := (hV W2.heap.size (by omega)).trans g3'.out
 have v4 := (hV W3.heap.size (by omega)).trans g4'.out
 obtain ⟨d0, d1⟩ := pc2 v4
 refine ⟨some ⟨W3.heap.size, 0, none⟩, 1, rfl, Nat.le_refl _, by decide, (fun h => by cases h), fun _ => ⟨W3.heap.size, 0, rfl, gsl v4, fun j hj => ?_⟩⟩
 obtain rfl : j = 0 := by simpa [exP] using hj
 exact ⟨_, _, d0, d1, ints_block [0, 3, 0, 0, 3, 0] 6 rfl v2 (by decide), ints_block [0] 1 rfl v3 (by decide)⟩
theorem pf_l9_set (w : World) : Calls Try.prog 57 #[] w fun e w' => e = .returned (fndV ⟨0, 2, 10, 100, 100⟩) ∧ Below w.heap.size w w' := by
 obtain ⟨W1, hW1, hb1, k1⟩ := newb w (.cells #[.int .i64 0, .int .i64 0, .int .i64 0, .int .i64 0, .int .i64 0] 27)
 obtain ⟨c0, c1, c2, c3, c4⟩ := pc5 k1
 have f0 := pfrz k1 0
 have f1 := pfrz k1 1
 have f2 := pfrz k1 2
 have f3 := pfrz k1 3
 have f4 := pfrz k1 4
 have ⟨hb1', k1'⟩ := hyd2 hb1 k1
 clear k1 hb1
 go_enter Try.func57, Try.ntmps57
 go_wp2_with (fail)
 clear c0 c1 c2 c3 c4 f0 f1 f2 f3 f4
 have p5 := pset5 k1'.out (.int .i64 0) (.int .i64 2) (.int .i64 10) (.int .i64 100) (.int .i64 100)
 obtain ⟨c0, c1, c2, c3, c4⟩ := pc5 p5
 exact bodyPost_ret (v := .agg #[.int .i64 0, .int .i64 2, .int .i64 10, .int .i64 100, .int .i64 100]) (by simp [results, Try.results57, go_sem, c0, c1, c2, c3, c4]) rfl ⟨rfl, pset5b hb1'.out (Nat.le_refl _) _ _ _ _ _⟩
def exF : Fnd := ⟨0, 2, 10, 100, 100⟩
theorem ex_findE : findE exP = 0 := by kernel_rfl
theorem ex_findV : findL exP = [exF] := by kernel_rfl
theorem ex_simpE : simpE exP exF 100 = 0 := by kernel_rfl
theorem ex_ros : (simpP exP exF 100).ros = [0, 3, 0, 0, 3, 0] := by kernel_rfl
theorem ex_shifts : (simpP exP exF 100).shifts = [1] := by kernel_rfl
theorem ex_confE : confE exQ = 0 := by kernel_rfl
theorem ex_confL : confL exQ = [3, 4] := by kernel_rfl
theorem ex_rebE : rebE [0, 4, 0, 0, 0, 0] [5, 5, 5, 0, 0, 0] [0, 0, 0] = 0 := by kernel_rfl
theorem ex_rebL : rebL [0, 4, 0, 0, 0, 0] [5, 5, 5, 0, 0, 0] [0, 0, 0] = [0, 5, 0, 0, 0, 0] := by kernel_rfl
theorem exP_fit : exP.Fit := ⟨by simp only [fit64, exP]; decide, by simp only [fit64, exP]; decide, by simp only [fit64, exP]; decide, by simp only [fit64, exP]; decide, by simp only [fit64, exP]; decide, by simp only [fit64, exP]; decide⟩
theorem exQ_fit : exQ.Fit := ⟨by simp only [fit64, exQ]; decide, by simp only [fit64, exQ]; decide, by simp only [fit64, exQ]; decide, by simp only [fit64, exQ]; decide, by simp only [fit64, exQ]; decide, by simp only [fit64, exQ]; decide⟩
theorem exF_fit : exF.Fit := by
 unfold Fnd.Fit fit64 exF
 decide
end Go.Proofs.Ytkblockodaiigaa
namespace Go.Proofs.Ytkblockodaiigaa
set_option maxRecDepth 100000
set_option maxHeartbeats 1000000
open Go.RowKit Go.Shelf
set_option linter.unusedVariables false
set_option linter.unusedSimpArgs false
theorem exP_pic {w : World} {n : Nat} {vh vr : Value} (hh : HeadsL w vh exP.hs) (ho : w.ownsRow n 65 4 vr 4 (exP.rds.flatMap rdEnc)) : IsPic w (.agg #[vh, .int .i64 1, .int .i64 2, .int .i64 10, .int .i64 10, vr]) exP := ⟨_, _, rfl, hh, SV.of_own (base := n) (e := 65) (enc := rdEnc) (fun _ => rfl) ho⟩
theorem own_other {w : World} {base e size n B k : Nat} {v : Value} {xs : List Value} (h : w.ownsRow base e size v n xs) (hne : ∀ r, v.ownBlock = some r → r ≠ B) (u : Value) : (w.setCell ⟨B, k, none⟩ u).ownsRow base e size v n xs := by
 refine ⟨h.1, ?_⟩
 rcases h.2 with h' | ⟨g', cap, cur, hv, hb, hh, r⟩
 ·exact .inl h'
 ·exact .inr ⟨g', cap, cur, hv, hb, (Below.heap_setCell _ ⟨B, k, none⟩ _ g' (hne g' (by rw [hv]; rfl))).trans hh, r⟩
theorem exF_val : fndV exF = .agg #[.int .i64 0, .int .i64 2, .int .i64 10, .int .i64 100, .int .i64 100] := rfl
theorem pf_l9_alive (w : World) : Calls Try.prog 23 #[] w fun e w' => e = .returned (.bool true) ∧ Below w.heap.size w w' := by
 have kex := fun W => pf_l9_example W
 have kset : ∀ W, Calls Try.prog 57 #[] W fun e w' => e = .returned (.agg #[.int .i64 0, .int .i64 2, .int .i64 10, .int .i64 100, .int .i64 100]) ∧ Below W.heap.size W w' := fun W => pf_l9_set W
 have kfi : ∀ v W, IsPic W v exP → Calls Try.prog 25 #[v] W fun e w' => ∃ v', e = .returned (.tuple #[v', .int .i64 0]) ∧ Below W.heap.size W w' ∧ FndL w' v' [exF] := fun v W h => by
  have := pf_rd_Find v exP W h exP_fit (by decide)
  rwa [ex_findE, ex_findV] at this
 have ksi : ∀ v W, IsPic W v exP → Calls Try.prog 14 #[v, fndV exF, .int .i64 100] W fun e w' => ∃ v', e = .returned (.tuple #[v', .int .i64 0]) ∧ Below W.heap.size W w' ∧ NewProg W.heap.size w' v' (simpP exP exF 100) := fun v W h => by
  have := pf_rd_Simplest v exP exF 100 W h exP_fit exF_fit (by unfold fit64; decide)
  rwa [ex_simpE] at this
 have kco : ∀ v W, IsPic W v exQ → Calls Try.prog 19 #[v] W fun e w' => ∃ v', e = .returned (.tuple #[v', .int .i64 0]) ∧ Below W.heap.size W w' ∧ Ints w' v' [3, 4] := fun v W h => by
  have := pf_rd_Conflict v exQ W h exQ_fit (by decide)
  rwa [ex_confE, ex_confL] at this
 obtain ⟨q, hq⟩ : ∃ q, simpP exP exF 100 = q := ⟨_, rfl⟩
 have hros : q.ros = [0, 3, 0, 0, 3, 0] := by rw [← hq]; exact ex_ros
 have hshi : q.shifts = [1] := by rw [← hq]; exact ex_shifts
 rw [hq] at ksi
 rw [exF_val] at ksi
 clear hq
 have ⟨kex', kset', kfi', ksi', kco', hros', hshi'⟩ := hyd7 kex kset kfi ksi kco hros hshi
 clear hshi hros kco ksi kfi kset kex
 go_enter Try.func23, Try.ntmps23
 go_wp2_with (fail)
 go_at_call 56
 refine (kex'.out w).mono ?_
 rintro e W1 ⟨vh1, vr1, z1, rfl, hb1, -, y1, hV1, ho1⟩
 have hh1 := hV1 W1 y1 (fun _ _ => rfl)
 have hp1 := exP_pic hh1 ho1
 obtain ⟨HA1, hc1, rfl, -⟩ := hh1.slice
 obtain ⟨RA1, rc1, rfl⟩ := slice_formR ho1
 have ⟨hb1', hh1', ho1', hp1', hV1'⟩ := hyd5 hb1 hh1 ho1 hp1 hV1
 clear hV1 hp1 ho1 hh1 hb1
 go_wp2_with (fail)
 go_at_call 25
 refine (kfi'.out _ W1 hp1'.out).mono ?_
 rintro e W2 ⟨vf, rfl, hb2, hf2⟩
 have hbw2 := bel_set hb1'.out hb2
 have ⟨hb2', hf2', hbw2'⟩ := hyd3 hb2 hf2 hbw2
 clear hbw2 hf2 hb2
 go_wp2_with (fail)
 go_at_call 56
 refine (kex'.out W2).mono ?_
 rintro e W3 ⟨vh3, vr3, z3, rfl, hb3, -, y3, hV3, ho3⟩
 have hh3 := hV3 W3 y3 (fun _ _ => rfl)
 have hp3 := exP_pic hh3 ho3
 obtain ⟨HA3, hc3, rfl, -⟩ := hh3.slice
 obtain ⟨RA3, rc3, rfl⟩ := slice_formR ho3
 have hbw3 := bel_set hbw2'.out hb3
 have ⟨hb3', hh3', ho3', hp3', hbw3', hV3'⟩ := hyd6 hb3 hh3 ho3 hp3 hbw3 hV3
 clear hV3 hbw3 hp3 ho3 hh3 hb3
 go_wp2_with (fail)
 go_at_call 57
 refine (kset'.out W3).mono ?_
 rintro e W4 ⟨rfl, hb4⟩
 have hbw4 := bel_set hbw3'.out hb4
 have hp4 := hp3'.out.le hb4
 have ⟨hb4', hbw4', hp4'⟩ := hyd3 hb4 hbw4 hp4
 clear hp4 hbw4 hb4
 go_wp2_with (fail)
 go_at_call 14
 refine (ksi'.out _ W4 hp4'.out).mono ?_
 rintro e W5 ⟨vx, rfl, hb5, hx⟩
 obtain ⟨x0, x1, x5, rfl, i0, o1, i5⟩ := hx
 obtain ⟨I0, j0, rfl, -⟩ := id i0
 obtain ⟨I5, j5, rfl, -⟩ := id i5
 obtain ⟨I1, j1, rfl⟩ := slice_formR o1
 obtain ⟨W6, hW6, hb6, k6⟩ := newb W5 (.cells #[.slice I0 q.ros.length j0, .slice I1 q.rub.length j1, .int .i64 q.start, .int .i64 q.throw, .int .i64 q.adv, .slice I5 q.shifts.length j5] 38)
 have hbw6 := bel_set hbw4'.out (bel_set hb5 hb6)
 have i06 := i0.below hb6
 have i56 := i5.below hb6
 have f26 := hf2'.out.le (bel_set hb3'.out (bel_set hb4'.out (bel_set hb5 hb6)))
 have ⟨hb5', i0', o1', i5', hb6', k6', hbw6', i06'⟩ := hyd8 hb5 i0 o1 i5 hb6 k6 hbw6 i06
 have ⟨i56', f26'⟩ := hyd2 i56 f26
 clear f26 i56 i06 hbw6 k6 hb6 i5 o1 i0 hb5
 go_wp2_with (fail)
 clear hW6
 go_at_call 56
 refine (kex'.out W6).mono ?_
 rintro e W7 ⟨vh7, vr7, zz, rfl, hb7, y7, y8, hV7, ho7⟩
 have hh7 := hV7 W7 y8 (fun _ _ => rfl)
 obtain ⟨HA7, hc7, rfl, -⟩ := hh7.slice
 obtain ⟨RA7, rc7, rfl⟩ := slice_formR ho7
 obtain ⟨W8, hW8, hb8, k8⟩ := newb W7 (.cells #[.slice HA7 exP.hs.length hc7, .int .i64 1, .int .i64 2, .int .i64 10, .int .i64 10, .slice RA7 4 rc7] 25)
 have hb68 := bel_set hb7 hb8
 have hbw8 := bel_set hbw6'.out hb68
 obtain ⟨c0, c1, c2, c3, c4, c5⟩ := pc6 k8
 have g5 := pfrz k8 5
 obtain ⟨W9, hW9, hb9, k9⟩ := newb W8 (.cells #[.int .i64 1, .int .i64 5, .int .i64 110, .int .i64 110] 65)
 have ho9 := own_below (own_below ho7 hb8) hb9
 have k89 := blk hb9 k8
 have hb69 := bel_set hb68 hb9
 have hz9 := hb69.size
 have hz89 := hb9.size
 have z6 := hb7.size
 have z7 := gsl k8
 have hnew : ∀ (i : Nat) (u : Value), (rdEnc ⟨1, 5, 110, 110⟩)[i]? = some u → W9.cell? ⟨W8.heap.size, i, none⟩ = some u := fun i u hu => by
  have hi4 : i < 4 := (List.getElem?_eq_some_iff.1 hu).1
  obtain ⟨n0, n1, n2, n3⟩ := pc4 k9
  match i, hi4 with
  | 0, _ => rw [n0]; simpa [rdEnc] using hu
  | 1, _ => rw [n1]; simpa [rdEnc] using hu
  | 2, _ => rw [n2]; simpa [rdEnc] using hu
  | 3, _ => rw [n3]; simpa [rdEnc] using hu
 have hV9 : ∀ V : World, zz ≤ V.heap.size → (∀ b, b < zz → V.heap[b]? = W9.heap[b]?) → HeadsL V (.slice HA7 exP.hs.length hc7) exP.hs := fun V h1 h2 => hV7 V h1 fun b hb => (h2 b hb).trans ((bel_set hb8 hb9).block b (by omega))
 have hne7 : ∀ r, (Value.slice RA7 4 rc7).ownBlock = some r → r < W7.heap.size := fun r e => (ho7.lt r e).2
 have ⟨hb7', ho7', hb8', k8', hb68', hbw8', hb9', k9'⟩ := hyd8 hb7 ho7 hb8 k8 hb68 hbw8 hb9 k9
 have ⟨ho9', k89', hb69', hnew', hV7', hV9', hne7', hh7'⟩ := hyd8 ho9 k89 hb69 hnew hV7 hV9 hne7 hh7
 clear hh7 hne7 hV9 hV7 hnew hb69 k89 ho9 k9 hb9 hbw8 hb68 k8 hb8 ho7 hb7
 go_wp2_with (first | (at_builtin; go_must (refine wpList_appT (enc := rdEnc) (k := 4) (bytes := 32) _ rfl _ _ 23 (fun _ => rfl) (fun x u hu => by simp [rdEnc] at hu; rcases hu with rfl | rfl | rfl | rfl <;> rfl) (by decide) rfl (by decide) rfl zz 65 Try.underlying23 rdgInfo (.slice RA7 4 rc7) exP.rds rfl ho9'.out W8.heap.size ⟨1, 5, 110, 110⟩ rfl hnew'.out (by decide) (by omega) ?_)))
 intro v10 W10 q1 q2 q3
 have q1b : W10.ownsRow zz 65 4 v10 5 (exQ.rds.flatMap rdEnc) := q1
 obtain ⟨A10, c10, rfl⟩ := slice_formR q1b
 have hown9 : ∀ r, (Value.slice RA7 4 rc7).ownBlock = some r → zz ≤ r := fun r e => (ho9'.out.lt r e).1
 have k10 := (q2.block _ (gsl k89'.out) (fun e => by have := hne7'.out _ e.symm; omega)).trans k89'.out
 have hb910 : Below zz W9 W10 := Below.grown (Below.refl _ _) q2 (by omega) hown9
 have hb610 : Below W6.heap.size W6 W10 := hb69'.out.trans (hb910.mono y7)
 have hz10 := hb910.size
 obtain ⟨e0, e1, e2, e3, e4, e5⟩ := pc6 k10
 have t5 := pfrz k10 5
 obtain ⟨W11, hW11, hb11, k11, o11, hh11⟩ : ∃ V, W10.setCell ⟨W7.heap.size, 5, none⟩ (.slice A10 5 c10) = V ∧ Below W6.heap.size W6 V ∧ V.heap[W7.heap.size]? = some (.cells #[.slice HA7 exP.hs.length hc7, .int .i64 1, .int .i64 2, .int .i64 10, .int .i64 10, .slice A10 5 c10] 25) ∧ V.ownsRow zz 65 4 (.slice A10 5 c10) 5 (exQ.rds.flatMap rdEnc) ∧ HeadsL V (.slice HA7 exP.hs.length hc7) exP.hs := by
  refine ⟨_, rfl, Below.setCell hb610 (p := ⟨W7.heap.size, 5, none⟩) z6 _, heap_set k10 5 _, own_other q1b (fun r e => ?_) _, hV9'.out _ (by simp [World.setCell]; omega) fun b hb => ?_⟩
  ·rcases q3 r e with h | h
   ·have := hne7'.out r h; omega
   ·omega
  ·exact (Below.heap_setCell _ ⟨W7.heap.size, 5, none⟩ _ b (by show b ≠ W7.heap.size; omega)).trans (hb910.block b hb)
 obtain ⟨d0, d1, d2, d3, d4, d5⟩ := pc6 k11
 have hq11 : IsPic W11 (.agg #[.slice HA7 exP.hs.length hc7, .int .i64 1, .int .i64 2, .int .i64 10, .int .i64 10, .slice A10 5 c10]) exQ := ⟨_, _, rfl, hh11, SV.of_own (base := zz) (e := 65) (enc := rdEnc) (fun _ => rfl) o11⟩
 have ⟨q1', q1b', q2', q3', hown9', k10', hb910', hb610'⟩ := hyd8 q1 q1b q2 q3 hown9 k10 hb910 hb610
 have ⟨hb11', k11', o11', hh11', hq11'⟩ := hyd5 hb11 k11 o11 hh11 hq11
 clear hq11 hh11 o11 k11 hb11 hb610 hb910 k10 hown9 q3 q2 q1b q1
 go_wp2_with (fail)
 clear e0 e1 e2 e3 e4 e5 t5 c0 c1 c2 c3 c4 c5 g5 d0 d1 d2 d3 d4 d5 hW11
 go_at_call 19
 refine (kco'.out _ W11 hq11'.out).mono ?_
 rintro e W12 ⟨vc, rfl, hb12, hi12⟩
 obtain ⟨CA, cc, rfl, -⟩ := id hi12
 have hb612 := bel_set hb11'.out hb12
 obtain ⟨W13, hW13, hb13, k13⟩ := newb W12 (.cells #[.int .i64 0, .int .i64 4, .int .i64 0, .int .i64 0, .int .i64 0, .int .i64 0] 3)
 obtain ⟨W14, hW14, hb14, k14⟩ := newb W13 (.cells #[.int .i64 5, .int .i64 5, .int .i64 5, .int .i64 0, .int .i64 0, .int .i64 0] 3)
 obtain ⟨W15, hW15, hb15, k15⟩ := newb W14 (.cells #[.int .i64 0, .int .i64 0, .int .i64 0] 3)
 have r13 : Ints W15 (.slice (some ⟨W12.heap.size, 0, none⟩) 6 6) [0, 4, 0, 0, 0, 0] := ints_block _ 6 rfl (blk hb15 (blk hb14 k13)) (by decide)
 have r14 : Ints W15 (.slice (some ⟨W13.heap.size, 0, none⟩) 6 6) [5, 5, 5, 0, 0, 0] := ints_block _ 6 rfl (blk hb15 k14) (by decide)
 have r15 : Ints W15 (.slice (some ⟨W14.heap.size, 0, none⟩) 3 3) [0, 0, 0] := ints_block _ 3 rfl k15 (by decide)
 have kre : Calls Try.prog 29 #[.slice (some ⟨W12.heap.size, 0, none⟩) 6 6, .slice (some ⟨W13.heap.size, 0, none⟩) 6 6, .slice (some ⟨W14.heap.size, 0, none⟩) 3 3] W15 fun e w' => ∃ v' N, e = .returned (.tuple #[v', .int .i64 N, .int .i64 0]) ∧ Below W15.heap.size W15 w' ∧ Ints w' v' [0, 5, 0, 0, 0, 0] := (pf_Rebuild _ _ _ _ _ _ W15 r13 r14 r15).mono fun e w' ⟨v', h1, h2, h3⟩ => ⟨v', ((rebN [0, 4, 0, 0, 0, 0] [5, 5, 5, 0, 0, 0] [0, 0, 0] : Nat) : Int), h1.trans (congrArg (fun z => Ending.returned (.tuple #[v', .int .i64 ((rebN [0, 4, 0, 0, 0, 0] [5, 5, 5, 0, 0, 0] [0, 0, 0] : Nat) : Int), .int .i64 z])) ex_rebE), h2, by rw [ex_rebL] at h3; exact Arr.of_own h3⟩
 have hb1215 := bel_set hb13 (bel_set hb14 hb15)
 have hi15 := hi12.below hb1215
 have hb615 := bel_set hb612 hb1215
 have ⟨hb12', hi12', hb612', hb13', k13', hb14', k14', hb15'⟩ := hyd8 hb12 hi12 hb612 hb13 k13 hb14 k14 hb15
 have ⟨k15', r13', r14', r15', kre', hb1215', hi15', hb615'⟩ := hyd8 k15 r13 r14 r15 kre hb1215 hi15 hb615
 clear hb615 hi15 hb1215 kre r15 r14 r13 k15 hb15 k14 hb14 k13 hb13 hb612 hi12 hb12
 go_wp2_with (fail)
 clear hW13 hW14 hW15
 go_at_call 29
 refine kre'.out.mono ?_
 rintro e W16 ⟨vr, N, rfl, hb16, hi16⟩
 obtain ⟨RA, rr, rfl, -⟩ := id hi16
 have hb616 := bel_set hb615'.out hb16
 have hbw16 := bel_set hbw6'.out hb616
 have hc16 := hi15'.out.below hb16
 have k616 := blk hb616 k6'.out
 have i016 := i06'.out.below hb616
 have i516 := i56'.out.below hb616
 have f216 := f26'.out.le hb616
 obtain ⟨FA, fc, rfl, -⟩ := f216.slice
 obtain ⟨p0, p1, p2, p3, p4, p5⟩ := pc6 k616
 have ⟨hb16', hi16', hb616', hbw16', hc16', k616', i016', i516'⟩ := hyd8 hb16 hi16 hb616 hbw16 hc16 k616 i016 i516
 have f216' := hyd1 f216
 clear f216 i516 i016 k616 hc16 hbw16 hb616 hi16 hb16
 go_wp2_with (fail)
 go_at_call 57
 refine (kset'.out W16).mono ?_
 rintro e W17 ⟨rfl, hb17⟩
 obtain ⟨W18, hW18, hb18, k18⟩ := newb W17 (.cells #[.int .i64 0, .int .i64 2, .int .i64 10, .int .i64 100, .int .i64 100] 27)
 have f218 := (f216'.out.le hb17).le hb18
 have f18 : FndL W18 (.slice (some ⟨W17.heap.size, 0, none⟩) 1 1) [exF] := SV.of_own (e := 27) (enc := fndEnc) (fun _ => rfl) (own_block (base := 0) (cs := [exF].flatMap fndEnc) k18 (Nat.zero_le _) rfl (by decide))
 have ksf : Calls Try.prog 58 #[.slice FA 1 fc, .slice (some ⟨W17.heap.size, 0, none⟩) 1 1] W18 fun e w' => e = .returned (.bool true) ∧ Below W18.heap.size W18 w' := (pf_r9_SameFound _ _ [exF] [exF] W18 f218 f18).mono fun e w' ⟨h1, n, h2⟩ => ⟨by rw [h1]; rfl, by rw [h2]; exact Below.of_drewN _ _⟩
 have hb1618 := bel_set hb17 hb18
 clear p0 p1 p2 p3 p4 p5
 have ⟨hb17', hb18', k18', f218', f18', ksf', hb1618'⟩ := hyd7 hb17 hb18 k18 f218 f18 ksf hb1618
 clear hb1618 ksf f18 f218 k18 hb18 hb17
 go_wp2_with (fail)
 clear hW18
 go_at_call 58
 refine ksf'.out.mono ?_
 rintro e W19 ⟨rfl, hb19⟩
 have hb1619 := bel_set hb1618'.out hb19
 have k619 := blk hb1619 k616'.out
 obtain ⟨p0, p1, p2, p3, p4, p5⟩ := pc6 k619
 obtain ⟨W20, hW20, hb20, k20⟩ := newb W19 (.cells #[.int .i64 0, .int .i64 3, .int .i64 0, .int .i64 0, .int .i64 3, .int .i64 0] 3)
 have hb1620 := bel_set hb1619 hb20
 have r20 : Ints W20 (.slice (some ⟨W19.heap.size, 0, none⟩) 6 6) [0, 3, 0, 0, 3, 0] := ints_block _ 6 rfl k20 (by decide)
 have s20 := i016'.out.below hb1620
 rw [hros'.out] at s20
 have kro := fun v v' xs ys W h1 h2 (hxy : xs = ys) => (pf_l9_same v v' xs ys W h1 h2).mono (R' := fun e w' => e = .returned (.bool true) ∧ Below W.heap.size W w') fun e w' ⟨h1, n, h2⟩ => ⟨by rw [h1, hxy]; simp, by rw [h2]; exact Below.of_drewN _ _⟩
 rw [hros'.out] at *
 have ⟨hb19', hb1619', k619', hb20', k20', hb1620', r20', s20'⟩ := hyd8 hb19 hb1619 k619 hb20 k20 hb1620 r20 s20
 have kro' := hyd1 kro
 clear kro s20 r20 hb1620 k20 hb20 k619 hb1619 hb19
 go_wp2_with (fail)
 clear hW20 p0 p1 p2 p3 p4 p5
 go_at_call 17
 refine (kro'.out _ _ _ _ W20 s20'.out r20'.out rfl).mono ?_
 rintro e W21 ⟨rfl, hb21⟩
 have hb1621 := bel_set hb1620'.out hb21
 obtain ⟨p0, p1, p2, p3, p4, p5⟩ := pc6 (blk hb1621 k616'.out)
 obtain ⟨W22, hW22, hb22, k22⟩ := newb W21 (.cells #[.int .i64 1] 3)
 have hb1622 := bel_set hb1621 hb22
 have r22 : Ints W22 (.slice (some ⟨W21.heap.size, 0, none⟩) 1 1) [1] := ints_block _ 1 rfl k22 (by decide)
 have s22 := i516'.out.below hb1622
 rw [hshi'.out] at s22
 have ⟨hb21', hb1621', hb22', k22', hb1622', r22', s22'⟩ := hyd7 hb21 hb1621 hb22 k22 hb1622 r22 s22
 clear s22 r22 hb1622 k22 hb22 hb1621 hb21
 go_wp2_with (fail)
 clear hW22 p0 p1 p2 p3 p4 p5
 rw [hshi'.out]
 go_at_call 17
 refine (kro'.out _ _ _ _ W22 s22'.out r22'.out rfl).mono ?_
 rintro e W23 ⟨rfl, hb23⟩
 have hb1623 := bel_set hb1622'.out hb23
 obtain ⟨W24, hW24, hb24, k24⟩ := newb W23 (.cells #[.int .i64 3, .int .i64 4] 3)
 have hb1624 := bel_set hb1623 hb24
 have r24 : Ints W24 (.slice (some ⟨W23.heap.size, 0, none⟩) 2 2) [3, 4] := ints_block _ 2 rfl k24 (by decide)
 have s24 := hc16'.out.below hb1624
 have ⟨hb23', hb1623', hb24', k24', hb1624', r24', s24'⟩ := hyd7 hb23 hb1623 hb24 k24 hb1624 r24 s24
 clear s24 r24 hb1624 k24 hb24 hb1623 hb23
 go_wp2_with (fail)
 clear hW24
 go_at_call 17
 refine (kro'.out _ _ _ _ W24 s24'.out r24'.out rfl).mono ?_
 rintro e W25 ⟨rfl, hb25⟩
 have hb1625 := bel_set hb1624'.out hb25
 obtain ⟨W26, hW26, hb26, k26⟩ := newb W25 (.cells #[.int .i64 0, .int .i64 5, .int .i64 0, .int .i64 0, .int .i64 0, .int .i64 0] 3)
 have hb1626 := bel_set hb1625 hb26
 have r26 : Ints W26 (.slice (some ⟨W25.heap.size, 0, none⟩) 6 6) [0, 5, 0, 0, 0, 0] := ints_block _ 6 rfl k26 (by decide)
 have s26 := hi16'.out.below hb1626
 have ⟨hb25', hb1625', hb26', k26', hb1626', r26', s26'⟩ := hyd7 hb25 hb1625 hb26 k26 hb1626 r26 s26
 clear s26 r26 hb1626 k26 hb26 hb1625 hb25
 go_wp2_with (fail)
 clear hW26
 go_at_call 17
 refine (kro'.out _ _ _ _ W26 s26'.out r26'.out rfl).mono ?_
 rintro e W27 ⟨rfl, hb27⟩
 have hbf := bel_set hbw16'.out (bel_set hb1626'.out hb27)
 have ⟨hb27', hbf'⟩ := hyd2 hb27 hbf
 clear hbf hb27
 go_wp2
 go_ret
 exact ⟨rfl, hbf'.out⟩
end Go.Proofs.Ytkblockodaiigaa
