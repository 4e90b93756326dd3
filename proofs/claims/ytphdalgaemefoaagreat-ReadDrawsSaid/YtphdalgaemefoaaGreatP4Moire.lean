/- pattern.Cut. pattern's iterator over phases. pattern.Phases. pattern.Moire. Moire, with its errors, both; the law PatternPairs. -/
import Derived.Test.YtphdalgaemefoaaGreatP4Lift
import Derived.Test.YtphdalgaemefoaaGreatQTail
import Derived.Test.YtphdalgaemefoaaGreatOffset
import Derived.RangeFuncWrites
namespace Go.Proofs.YtphdalgaemefoaaGreat
set_option maxRecDepth 100000
set_option maxHeartbeats 4000000
open Go.RowKit
set_option linter.unusedVariables false
set_option linter.unusedSimpArgs false
attribute [local go_sem ↓] Go.wp_at_zero Go.wp_at_succ
theorem cutL_length (p : Prog) (j : Int) : (cutL p j).length = p.ros.length := by simp [cutL, shapeL_length]
theorem cutL_get (p : Prog) (j : Int) (k : Nat) (h : k < (cutL p j).length) : (cutL p j)[k] = p.start + j * p.adv + p.throw * atR (liftL p.ros p.rub) ((k : Int) - phaseI p j) := by
 rw [cutL_length] at h
 have h1 : (cutL p j)[k]? = some (p.start + j * p.adv + p.throw * atR (liftL p.ros p.rub) ((k : Int) - phaseI p j)) := by
  simp only [cutL, shapeL, movedL, liftL_length, List.getElem?_map, List.getElem?_range h, Option.map_some]
  rw [Int.mul_comm p.throw, Int.add_comm]
 exact (List.getElem?_eq_some_iff.1 h1).2
def begunL (l : List Int) (k : Nat) : List Int := l.take k ++ List.replicate (l.length - k) 0
theorem begunL_zero (l : List Int) : begunL l 0 = zerosI l.length := by simp [begunL, zerosI]
theorem begunL_all (l : List Int) : begunL l l.length = l := by simp [begunL]
theorem begunL_length (l : List Int) (k : Nat) (h : k ≤ l.length) : (begunL l k).length = l.length := by simp [begunL]; omega
theorem begunL_set (l : List Int) (k : Nat) (h : k < l.length) : (begunL l k).set k l[k] = begunL l (k + 1) := by
 apply List.ext_getElem?
 intro i
 unfold begunL
 rw [List.getElem?_set]
 by_cases hik : k = i
 ·subst hik
  rw [if_pos rfl, if_pos (by simp; omega), List.getElem?_append_left (by simp; omega)]
  simp [List.getElem?_take, h]
 ·rw [if_neg hik]
  by_cases hlt : i < k
  ·rw [List.getElem?_append_left (by simp; omega), List.getElem?_append_left (by simp; omega)]
   simp [List.getElem?_take, hlt, show i < k + 1 by omega]
  ·rw [List.getElem?_append_right (by simp; omega), List.getElem?_append_right (by simp; omega)]
   simp only [List.length_take, List.getElem?_replicate]
   congr 1; apply propext; omega
theorem begunL_get (l : List Int) (k : Nat) (h : k < l.length) : ∃ y, (begunL l k)[k]? = some y := by
 have : k < (begunL l k).length := by rw [begunL_length l k (by omega)]; exact h
 exact ⟨_, List.getElem?_eq_getElem this⟩
theorem pf_pat_Cut (v : Value) (p : Prog) (j : Int) (w : World) (hv : IsProg w v p) (E : Int) (hE : cutE p j = E) :
  Calls Tryz.prog 30 #[v, .int .i64 j] w fun e w' => ∃ v', e = .returned (.tuple #[v', .int .i64 E]) ∧ Below w.heap.size w w' ∧ w'.ownsRow w.heap.size 3 1 v' (onOk E (cutL p j)).length ((onOk E (cutL p j)).map vint) := by
 have hv0 := Lib.hid hv
 obtain ⟨v0, v1, v5, rfl, h0, hh1, h5⟩ := hv
 clear h0 hh1 h5
 unfold cutE at hE
 obtain ⟨F, hF⟩ : ∃ F, progE p = F := ⟨_, rfl⟩
 rw [hF] at hE
 by_cases hF0 : F = 0
 ·subst hF0
  have hp := benchFacts hF
  have hr0 := hp.ros0
  have hr1 := hp.ros1
  obtain ⟨X1, hX1⟩ : ∃ X, within j (-5000) 5000 = X := ⟨_, rfl⟩
  rw [hX1] at hE
  have ⟨hF', hX1'⟩ := hyd2 hF hX1
  clear hX1 hF
  cases X1 with
  | false =>
   obtain rfl : 2 = E := hE
   go_enter Tryz.func30, Tryz.ntmps30
   go_wp2_with (first | (go_at_call 54; ((with_reducible refine (pf_mounted _ p _ (hv0.out.below (alc1 _ _)) 0 hF'.out).mono ?_); rintro e w' ⟨vb, rfl, hb1, -, hok⟩; obtain ⟨b, rfl, hbb, hbench⟩ := hok rfl; have hbox := (Box.start w _).next hb1; clear hb1 hok hbench)) | (go_at_call 28; ((with_reducible refine (pf_within_pattern _ _ _ _).mono ?_); rintro e w' ⟨rfl, rfl⟩; rw [hX1'.out])))
   go_ret2
   exact ⟨_, rfl, hbox.below, World.ownsRow_nil _ _ _ _⟩
  | true =>
   obtain rfl : 0 = E := hE
   obtain ⟨a1, a2⟩ := within_iff.1 hX1'.out
   go_enter Tryz.func30, Tryz.ntmps30
   go_wp2_with (first | (go_at_call 54; ((with_reducible refine (pf_mounted _ p _ (hv0.out.below (alc1 _ _)) 0 hF'.out).mono ?_); rintro e w' ⟨vb, rfl, hb1, -, hok⟩; obtain ⟨b, rfl, hbb, hbench⟩ := hok rfl; have hbench' := Lib.hid hbench; obtain ⟨v5', vl, -, -, -, -, -, -, -, c7, -, -⟩ := hbench.cells; have hbox := (Box.start w _).next hb1; have hblt := hbench.lt; have hbb' : w.heap.size < b := (by simp at hbb; omega); clear hb1 hok hbench hbb)) | (go_at_call 28; ((with_reducible refine (pf_within_pattern _ _ _ _).mono ?_); rintro e w' ⟨rfl, rfl⟩; rw [hX1'.out])) | (at_make; go_must (refine wpList_makeI _ rfl _ _ 36 rfl _ 3 elemInt p.ros.length rfl rfl (by omega) (Nat.le_refl _) ?_)))
   intro w3 ho hb3 hlt3
   have hb3' := hyd1 hb3
   have d7 := (hb3.cell (p := ⟨b, 7, none⟩) hblt).trans c7
   have ho' := hyd1 ho
   have hgz : w'.heap.size ≤ w'.heap.size := Nat.le_refl _
   clear c7 hb3 ho
   generalize hG : w'.heap.size = g at hblt hgz ⊢
   rw [hG] at ho' hb3' hlt3
   have hG' := hyd1 hG
   clear hG
   obtain ⟨y, hy⟩ : ∃ y, phaseI p j = y := ⟨_, rfl⟩
   have hcall : ∀ W : World, IsBench W b p → Calls Tryz.prog 56 #[.pointer (some ⟨b, 0, none⟩), .int .i64 j] W fun e w' => e = .returned (.int .i64 y) ∧ ∃ n, w' = W.drewN n := fun W h => by rw [← hy]; exact pf_phase b p j W h hp (by omega) (by omega)
   have hyb := phaseI_bound hp j
   rw [hy] at hyb
   have hL0 := cutL_length p j
   have hLg := cutL_get p j
   rw [hy] at hLg
   have hadv := hp.adv
   have hst := hp.start
   have hth := hp.throw
   have hma := mul_adv j p.adv (by omega) hadv
   generalize hCe : cutL p j = C at hL0 hLg
   have ⟨hCe', hcall', hy', hLg'⟩ := hyd4 hCe hcall hy hLg
   clear hLg hy hcall hCe
   go_wp2
   go_loopw [32, 9] (fun i _ wr => ∃ k : Nat, k ≤ p.ros.length ∧ i = .int .i64 k ∧ Hid (Below g w' wr) ∧ Hid (wr.ownsRow g 3 1 (.slice (some ⟨g, 0, none⟩) p.ros.length p.ros.length) p.ros.length ((begunL C k).map vint))) (fun i _ _ => p.ros.length - (intOf i).toNat)
   case atStart => exact ⟨0, Nat.zero_le _, rfl, hb3', by rw [begunL_zero, hL0]; exact ho'⟩
   case round =>
    obtain ⟨k, hk, rfl, hbw, hown⟩ := hrel
    have hB0 : Below w'.heap.size w' wr := by rw [hG'.out]; exact hbw.out
    have hbx := hbox.next hB0
    have hbn := Lib.hid (hbench'.out.below hB0)
    have hgr : g ≤ wr.heap.size := by have := hB0.size; have := hG'.out; omega
    clear hB0
    by_cases hlt : k < p.ros.length
    ·obtain ⟨p0, p1, p2, p3, p4, p5⟩ := hbx.prog
     obtain ⟨w5, wl, -, hl, -, -, -, -, c6, c7, -, -⟩ := hbench'.out.cells
     have hq0 := Int.emod_nonneg ((k : Int) - y) (show (p.ros.length : Int) ≠ 0 by omega)
     have hq1 := Int.emod_lt_of_pos ((k : Int) - y) (show (0 : Int) < (p.ros.length : Int) by omega)
     obtain ⟨q, hq⟩ : ∃ q : Nat, ((k : Int) - y) % (p.ros.length : Int) = (q : Int) := ⟨_, (Int.toNat_of_nonneg hq0).symm⟩
     have hql : q < (liftL p.ros p.rub).length := by rw [liftL_length]; omega
     have hLk := hLg'.out k (by omega)
     have hat : atR (liftL p.ros p.rub) ((k : Int) - y) = (liftL p.ros p.rub)[q] := by
      have h1 : atR (liftL p.ros p.rub) ((k : Int) - y) = atR (liftL p.ros p.rub) (q : Int) := atR_mod _ _ _ (by rw [liftL_length, hq]; exact (Int.emod_eq_of_lt (by omega) (by omega)).symm)
      rw [h1, atR_nat q hql]
     rw [hat] at hLk
     have hx := (rosOk_iff.1 (lift_ok hp.ros hp.rub)).2.2 q hql
     obtain ⟨lA, lc, rfl, hlc, hlm, -, -⟩ := id hl
     obtain ⟨lb, lo, rfl, hlz, hlq⟩ := hl.look hql
     rw [hG'.out] at hlz
     have c6 := (hbw.out.cell (p := ⟨b, 6, none⟩) hblt).trans c6
     have c7 := (hbw.out.cell (p := ⟨b, 7, none⟩) hblt).trans c7
     have hlq := (hbw.out.cell (p := ⟨lb, lo + q, none⟩) hlz).trans hlq
     rw [liftL_length] at c6 hlc
     have s1 := fun W o u => set_apart (show w.heap.size ≠ g by omega) W k o u
     have s2 := fun W o u => set_apart (show b ≠ g by omega) W k o u
     have s3 := fun W o u => set_apart (show lb ≠ g by omega) W k o u
     unfold maxLen at hlm
     generalize (liftL p.ros p.rub)[q] = x at hlq hx hLk
     have hcall2 : ∀ W : World, Calls Tryz.prog 55 #[.int .i64 ((k : Int) - y), .int .i64 p.ros.length] W fun e w' => e = .returned (.int .i64 q) ∧ W = w' := fun W => by
      have h := pf_pat_modulo ((k : Int) - y) p.ros.length W (by omega) (by omega) (by unfold Mid; omega)
      rw [hq] at h
      exact h
     have hm := mul_small x p.throw hx hth
     rw [Int.mul_comm] at hm
     have hset := begunL_set C k (by omega)
     obtain ⟨z, hz⟩ := begunL_get C k (by omega)
     have hlen := begunL_length C k (by omega)
     rw [hLk] at hset
     have i1 : (0 : Int) ≤ (k : Int) := by omega
     have i2 : (k : Int) < (p.ros.length : Int) := by omega
     have i3 : (0 : Int) ≤ (q : Int) := by omega
     have i4 : (q : Int) < (p.ros.length : Int) := by omega
     have j1 : IntKind.i64.wrap (j * p.adv) = j * p.adv := IntWalk.i64_in _ (by omega)
     have j2 : IntKind.i64.wrap (p.start + j * p.adv) = p.start + j * p.adv := IntWalk.i64_in _ (by omega)
     have j3 : IntKind.i64.wrap ((k : Int) - y) = (k : Int) - y := IntWalk.i64_in _ (by omega)
     have j4 : IntKind.i64.wrap (p.throw * x) = p.throw * x := IntWalk.i64_in _ (by omega)
     have j5 : IntKind.i64.wrap (p.start + j * p.adv + p.throw * x) = p.start + j * p.adv + p.throw * x := IntWalk.i64_in _ (by omega)
     have hwb : w.heap.size < wr.heap.size := hbx.lt
     have ⟨hcall2', hset', hlen', hq', hl'⟩ := hyd5 hcall2 hset hlen hq hl
     clear hl hq hlen hset hcall2
     have hz' := hyd1 hz
     have hcz := own_cell hown.out (by have := hlen'.out; omega) hz'.out
     have hfz := hown.out.frozenAt k
     clear hat hLk hq0 hq1 hz p0 p1 p5
     go_wp2
     go_region_held3 (fun w' => w'.cell? ⟨w.heap.size, 2, none⟩ = some (.int .i64 p.start) ∧ w'.cell? ⟨w.heap.size, 3, none⟩ = some (.int .i64 p.throw) ∧ w'.cell? ⟨w.heap.size, 4, none⟩ = some (.int .i64 p.adv) ∧ w'.cell? ⟨b, 6, none⟩ = some (.slice (some ⟨lb, lo, none⟩) p.ros.length lc) ∧ w'.cell? ⟨b, 7, none⟩ = some (.int .i64 p.ros.length) ∧ w'.cell? ⟨lb, lo + q, none⟩ = some (.int .i64 x)) (go_keep) (first | (go_at_call 56; refine (hcall'.out _ (by first | exact hbn.out.drew | exact hbn.out)).mono ?_; rintro e w' ⟨rfl, nd, rfl⟩) | (go_at_call 55; refine (hcall2'.out _).mono ?_; rintro e w' ⟨rfl, rfl⟩))
     go_wp2
     go_roundw
     case rel => exact ⟨k + 1, by omega, by go_num, Lib.hid ((below_drewN' hbw.out _).setCell (p := ⟨g, k, none⟩) (Nat.le_refl _) _), Lib.hid (by have h := own_put (own_drewN hown.out (1 + nd)) k (p.start + j * p.adv + p.throw * x); rw [hset'.out] at h; exact h)⟩
     case measure => simp [intOf]; omega
    ·obtain rfl : k = p.ros.length := by omega
     have hfin := hown.out
     rw [← hL0, begunL_all] at hfin
     have hfin' := hyd1 hfin
     clear hfin
     go_wp2
     go_ret2
     exact ⟨_, rfl, hbx.below, by rw [onOk_zero, hCe'.out]; exact own_base (by simpa [hL0] using hfin'.out) (by omega)⟩
 ·rw [if_pos hF0] at hE
  subst hE
  have hne : (F != 0) = true := by simpa using hF0
  have hn := Lib.hid (onOk_ne hF0 (cutL p j))
  have ⟨hF', hF0'⟩ := hyd2 hF hF0
  clear hF0 hF
  go_enter Tryz.func30, Tryz.ntmps30
  go_wp2_with (first | (go_at_call 54; ((with_reducible refine (pf_mounted _ p _ (hv0.out.below (alc1 _ _)) F hF'.out).mono ?_); rintro e w' ⟨vb, rfl, hb1, hn1, -⟩; have hn2 := hn1 hF0'.out; subst hn2; clear hn1)))
  go_ret2
  exact ⟨_, rfl, ((Box.start w _).next hb1).below, by rw [hn.out]; exact World.ownsRow_nil _ _ _ _⟩
end Go.Proofs.YtphdalgaemefoaaGreat
namespace Go.Proofs.YtphdalgaemefoaaGreat
set_option maxRecDepth 100000
set_option maxHeartbeats 4000000
open Go.RowKit Go.Shelf
set_option linter.unusedVariables false
set_option linter.unusedSimpArgs false
attribute [local go_sem] Oper.semAt_some
theorem Kept.drewN (n₀ : Nat) (Bs : List Nat) (W : World) (n : Nat) : Kept n₀ Bs W (W.drewN n) := ⟨below_drewN' (Below.refl _ _) n, fun _ _ => rfl⟩
theorem grown_drewN (W : World) (n : Nat) (row : Option Nat) : W.grownBy (W.drewN n) row := ⟨rfl, rfl, rfl, Nat.le_refl _, fun _ _ _ => rfl⟩
def phAt (p : Prog) (a : Int) (n : Nat) (i : Fin n) : Array Value := #[.int .i64 (a + i.1), .int .i64 (phaseI p (a + i.1))]
end Go.Proofs.YtphdalgaemefoaaGreat
namespace Go.Proofs.YtphdalgaemefoaaGreat
set_option maxRecDepth 100000
set_option maxHeartbeats 4000000
open Go.RowKit Go.Shelf
set_option linter.unusedVariables false
set_option linter.unusedSimpArgs false
attribute [local go_sem] Oper.semAt_some
theorem phases_fin (p : Prog) (a : Int) (n : Nat) : ((List.finRange n).map fun (i : Fin n) => phaseI p (a + i.1)) = phasesL p a n := by
 unfold phasesL
 rw [← finRange_val n, List.map_map]
 rfl
end Go.Proofs.YtphdalgaemefoaaGreat
namespace Go.Proofs.YtphdalgaemefoaaGreat
set_option maxRecDepth 100000
set_option maxHeartbeats 4000000
open Go.RowKit Go.Shelf Go.Maps
set_option linter.unusedVariables false
set_option linter.unusedSimpArgs false
attribute [local go_sem] Oper.semAt_some
attribute [local go_sem ↓] Go.wp_at_zero Go.wp_at_succ
theorem alc3_facts (w : World) (o0 o1 o2 : Obj) : ∃ W0, ((w.alloc o0).alloc o1).alloc o2 = W0 ∧ W0.heap.size = w.heap.size + 3 ∧ Below w.heap.size w W0 ∧
  W0.heap[w.heap.size]? = some o0 ∧ W0.heap[w.heap.size + 1]? = some o1 ∧ W0.heap[w.heap.size + 2]? = some o2 := by
 refine ⟨_, rfl, by simp, alc3 _ _ _ _, ?_, ?_, ?_⟩
 ·exact (Below.heap_alloc _ _ _ (by simp <;> omega)).trans ((Below.heap_alloc _ _ _ (by simp)).trans (heap_alloc_new _ _))
 ·exact (Below.heap_alloc _ _ _ (by simp)).trans (by have h := heap_alloc_new (w.alloc o0) o1; rw [World.size_alloc] at h; exact h)
 ·have h := heap_alloc_new ((w.alloc o0).alloc o1) o2; rw [World.size_alloc, World.size_alloc] at h; exact h
def phAt0 (p : Prog) (n : Nat) (i : Fin n) : Array Value := #[.int .i64 (i.1 : Nat), .int .i64 (phaseI p (i.1 : Nat))]
end Go.Proofs.YtphdalgaemefoaaGreat
namespace Go.Proofs.YtphdalgaemefoaaGreat
set_option maxRecDepth 100000
set_option maxHeartbeats 4000000
open Go.RowKit
set_option linter.unusedVariables false
set_option linter.unusedSimpArgs false
theorem moireE_cases (p q : Prog) (E : Int) (hE : moireE p q = E) :
  (progE p ≠ 0 ∧ progE p = E) ∨ (progE p = 0 ∧ progE q ≠ 0 ∧ progE q = E) ∨ (progE p = 0 ∧ progE q = 0 ∧ p.ros.length ≠ q.ros.length ∧ E = 2) ∨ (progE p = 0 ∧ progE q = 0 ∧ p.ros.length = q.ros.length ∧ E = 0) := by
 unfold moireE at hE
 split at hE
 ·rename_i h; exact .inl ⟨h, hE⟩
 ·rename_i h
  have h : progE p = 0 := by omega
  split at hE
  ·rename_i h2; exact .inr (.inl ⟨h, h2, hE⟩)
  ·rename_i h2
   have h2 : progE q = 0 := by omega
   split at hE
   ·rename_i h3; exact .inr (.inr (.inl ⟨h, h2, h3, hE.symm⟩))
   ·rename_i h3; exact .inr (.inr (.inr ⟨h, h2, by omega, hE.symm⟩))
end Go.Proofs.YtphdalgaemefoaaGreat
