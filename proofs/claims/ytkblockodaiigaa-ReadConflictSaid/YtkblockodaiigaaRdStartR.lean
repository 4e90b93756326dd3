/- The reference's starts: the Starts with which a phase fits a cut. -/
import Derived.Test.YtkblockodaiigaaRdCheckR
namespace Go.Proofs.Ytkblockodaiigaa
set_option maxRecDepth 100000
set_option maxHeartbeats 2000000
open Go.RowKit
set_option linter.unusedVariables false
set_option linter.unusedSimpArgs false
theorem foldl_take {α β : Type} (f : β → α → β) (o : β) (l : List α) (k : Nat) (h : k < l.length) : (l.take (k + 1)).foldl f o = f ((l.take k).foldl f o) l[k] := by
 rw [List.take_succ_eq_append_getElem h, List.foldl_append]; rfl
def RdOk (n : Nat) (r : Rd) : Prop := (0 ≤ r.cut ∧ r.cut ≤ 11) ∧ (0 ≤ r.step ∧ r.step ≤ (n : Int) - 1) ∧ -300000 ≤ r.lo ∧ r.lo ≤ r.hi ∧ r.hi ≤ 300000
theorem lift_in {lift : List Int} (h : rosOk lift = true) (r : Rd) (ph : Nat) : 0 ≤ hAt lift r ph ∧ hAt lift r ph ≤ 10000 := by
 obtain ⟨h1, h2, h3⟩ := rosOk_iff.1 h
 unfold hAt atR
 have hlt : ((r.step - (ph : Int)) % (lift.length : Int)).toNat < lift.length := by
  have a := Int.emod_nonneg (r.step - (ph : Int)) (show (lift.length : Int) ≠ 0 by omega)
  have b := Int.emod_lt_of_pos (r.step - (ph : Int)) (show (0 : Int) < lift.length by omega)
  omega
 rw [List.getD_eq_getElem?_getD, List.getElem?_eq_getElem hlt]
 exact h3 _ hlt
theorem mul_in {a b A B : Int} (h0 : 0 ≤ a) (h1 : a ≤ A) (h2 : -B ≤ b) (h3 : b ≤ B) (hB : 0 ≤ B) : -(A * B) ≤ a * b ∧ a * b ≤ A * B := by
 have x := Int.mul_le_mul_of_nonneg_left h3 h0
 have y := Int.mul_le_mul_of_nonneg_left h2 h0
 have z := Int.mul_le_mul_of_nonneg_right h1 hB
 rw [Int.mul_neg] at y
 omega
theorem ifmax (a b : Int) : (if a < b then b else a) = max a b := by omega
theorem ifmin (a b : Int) : (if b < a then b else a) = min a b := by omega
def stpS (lift : List Int) (throw adv cut : Int) (ph : Nat) (o : Spn) (r : Rd) : Spn := if r.cut = cut then (max o.1 (r.lo - (cut * adv + throw * hAt lift r ph)), min o.2 (r.hi - (cut * adv + throw * hAt lift r ph))) else o
theorem startS_eq (rds : List Rd) (lift : List Int) (throw adv cut : Int) (ph : Nat) : startS rds lift throw adv cut ph = rds.foldl (stpS lift throw adv cut ph) (0, 10000) := rfl
theorem startS_bound {n : Nat} {rds : List Rd} {lift : List Int} {throw adv cut : Int} {ph : Nat} (hr : ∀ r ∈ rds, RdOk n r) (hl : rosOk lift = true) (ht : 0 ≤ throw ∧ throw ≤ 16) (ha : -1000 ≤ adv ∧ adv ≤ 1000) (hc : 0 ≤ cut ∧ cut ≤ 11) :
  ∀ o : Spn, 0 ≤ o.1 → o.1 ≤ 400000 → -600000 ≤ o.2 → o.2 ≤ 10000 → 0 ≤ (rds.foldl (stpS lift throw adv cut ph) o).1 ∧ (rds.foldl (stpS lift throw adv cut ph) o).1 ≤ 400000 ∧ -600000 ≤ (rds.foldl (stpS lift throw adv cut ph) o).2 ∧ (rds.foldl (stpS lift throw adv cut ph) o).2 ≤ 10000 := by
 induction rds with
 | nil => intro o h0 h1 h2 h3; exact ⟨h0, h1, h2, h3⟩
 | cons r rds ih =>
  intro o h0 h1 h2 h3
  have hro := hr r List.mem_cons_self
  have hh := lift_in hl r ph
  have m1 := mul_in hc.1 hc.2 (b := adv) (B := 1000) (by omega) (by omega) (by decide)
  have m2 := mul_in ht.1 ht.2 (b := hAt lift r ph) (B := 10000) (by omega) (by omega) (by decide)
  have m3 := Int.mul_nonneg ht.1 hh.1
  unfold RdOk at hro
  simp only [List.foldl_cons]
  apply ih (fun q hq => hr q (List.mem_cons_of_mem _ hq))
  all_goals
   unfold stpS
   split
   ·simp only; omega
   ·assumption
theorem pf_r9_starts (v vl : Value) (p : Pic) (lift : List Int) (throw adv cut : Int) (ph : Nat) (w : World) (hp : IsPic w v p) (hl : Ints w vl lift) (hlo : rosOk lift = true) (hr : ∀ r ∈ p.rds, RdOk lift.length r) (ht : 0 ≤ throw ∧ throw ≤ 16) (ha : -1000 ≤ adv ∧ adv ≤ 1000) (hc : 0 ≤ cut ∧ cut ≤ 11) (hph : ph < lift.length) :
  Calls Try.prog 40 #[v, vl, .int .i64 throw, .int .i64 adv, .int .i64 cut, .int .i64 (ph : Int)] w fun e w' => e = .returned (.agg #[.int .i64 (startS p.rds lift throw adv cut ph).1, .int .i64 (startS p.rds lift throw adv cut ph).2]) ∧ Below w.heap.size w w' := by
 obtain ⟨vh, vr, rfl, hh, hrd⟩ := hp
 obtain ⟨HA, hhc, rfl, -⟩ := hh.slice
 obtain ⟨RA, rc, rfl, hrl⟩ := hrd.slice
 obtain ⟨LA, lc, rfl, -⟩ := id hl
 obtain ⟨hl3, hl96, -⟩ := rosOk_iff.1 hlo
 unfold maxLen at hrl
 obtain ⟨W0, hW0, hb0, k0⟩ := newb w (.cells #[.slice HA p.hs.length hhc, .int .i64 p.tl, .int .i64 p.th, .int .i64 p.al, .int .i64 p.ah, .slice RA p.rds.length rc] 25)
 obtain ⟨W1, hW1, hb1, k1⟩ := newb W0 (.cells #[.int .i64 0, .int .i64 0] 90)
 obtain ⟨W2, hW2, hb2, k2⟩ := newb W1 (.cells #[.int .i64 0, .int .i64 10000] 90)
 have z0 : w.heap.size < W0.heap.size := by rw [← hW0]; simp
 have z1 : W0.heap.size < W1.heap.size := by rw [← hW1]; simp
 have hI0 : Below w.heap.size w W2 := bel_set hb0 (bel_set hb1 hb2)
 have kp := blk hb2 (blk hb1 k0)
 have kr := blk hb2 k1
 have ⟨hh', hrd', hl', hlo', hr', hb0', hb1', hb2'⟩ := hyd8 hh hrd hl hlo hr hb0 hb1 hb2
 have ⟨k0', k1', k2', hI0', kp', kr'⟩ := hyd6 k0 k1 k2 hI0 kp kr
 clear kr kp hI0 k2 k1 k0 hb2 hb1 hb0 hr hlo hl hrd hh
 go_enter Try.func40, Try.ntmps40
 go_wp2_with (fail)
 clear hW0 hW1 hW2
 generalize hP1 : W0.heap.size = P1 at *
 generalize hP2 : W1.heap.size = P2 at *
 have ⟨hP1', hP2'⟩ := hyd2 hP1 hP2
 clear hP2 hP1
 go_loopw [14] (fun ix wr => ∃ j : Nat, j ≤ p.rds.length ∧ ix = .int .i64 j ∧ Hid (Below w.heap.size w wr ∧ wr.heap[w.heap.size]? = some (.cells #[.slice HA p.hs.length hhc, .int .i64 p.tl, .int .i64 p.th, .int .i64 p.al, .int .i64 p.ah, .slice RA p.rds.length rc] 25) ∧ wr.heap[P1]? = some (.cells #[.int .i64 0, .int .i64 0] 90) ∧
  wr.heap[P2]? = some (.cells #[.int .i64 ((p.rds.take j).foldl (stpS lift throw adv cut ph) (0, 10000)).1, .int .i64 ((p.rds.take j).foldl (stpS lift throw adv cut ph) (0, 10000)).2] 90))) (fun ix _ => p.rds.length - (intOf ix).toNat)
 case atStart => exact ⟨0, Nat.zero_le _, rfl, Lib.hid ⟨hI0'.out, kp'.out, kr'.out, k2'.out⟩⟩
 case round =>
  obtain ⟨j, hj, rfl, hI⟩ := hrel
  obtain ⟨hbw, ka, kb, kc⟩ := hI.out
  obtain ⟨b1, b2, b3, b4⟩ := startS_bound (rds := p.rds.take j) (n := lift.length) (lift := lift) (throw := throw) (adv := adv) (cut := cut) (ph := ph) (fun r h => hr'.out r (List.mem_of_mem_take h)) hlo'.out ht ha hc (0, 10000) (by decide) (by decide) (by decide) (by decide)
  obtain ⟨c0, c1, c2, c3, c4, c5⟩ := pc6 ka
  by_cases hlt : j < p.rds.length
  ·have hfold := foldl_take (stpS lift throw adv cut ph) (0, 10000) p.rds j hlt
   obtain ⟨O, hO⟩ : ∃ O, (p.rds.take j).foldl (stpS lift throw adv cut ph) (0, 10000) = O := ⟨_, rfl⟩
   rw [hO] at kc b1 b2 b3 b4 hfold
   obtain ⟨o1, o2⟩ := O
   dsimp only at kc b1 b2 b3 b4
   obtain ⟨bq, off, rc2, heq, hbl, g0, g1, g2, g3⟩ := RdsL.cells (hrd'.out.le hbw) hlt
   injection heq with e1 e2 e3
   subst e1 e3
   clear e2
   have hmem := List.getElem_mem hlt
   have hro := hr'.out _ hmem
   obtain ⟨r, hrr⟩ : ∃ r, p.rds[j] = r := ⟨_, rfl⟩
   rw [hrr] at g0 g1 g2 g3 hro hfold
   obtain ⟨rcut, rstep, rlo, rhi⟩ := r
   unfold RdOk at hro
   dsimp only at g0 g1 g2 g3 hro
   obtain ⟨W3, hW3, hb3, k3⟩ := newb wr (.cells #[.int .i64 rcut, .int .i64 rstep, .int .i64 rlo, .int .i64 rhi] 65)
   obtain ⟨d0, d1, d2, d3⟩ := pc4 k3
   have kc3 := blk hb3 kc
   obtain ⟨x0, x1⟩ := pc2 kc3
   have f0 := pfrz kc3 0
   have f1 := pfrz kc3 1
   have hPlt := (gsl kc)
   have n1 : ¬ P2 = wr.heap.size := by omega
   have n2 : ¬ wr.heap.size = P2 := by omega
   have j1 : (j : Int) < (p.rds.length : Int) := by omega
   have j2 : (0 : Int) ≤ (j : Int) := by omega
   have hbE := bel_set hbw hb3
   by_cases hcut : rcut = cut
   ·subst hcut
    have hh1 := lift_in hlo'.out ⟨rcut, rstep, rlo, rhi⟩ ph
    obtain ⟨q, hq⟩ : ∃ q : Nat, (rstep - (ph : Int)) % (lift.length : Int) = (q : Int) := ⟨((rstep - (ph : Int)) % (lift.length : Int)).toNat, by have := Int.emod_nonneg (rstep - (ph : Int)) (show (lift.length : Int) ≠ 0 by omega); omega⟩
    have hq2 : q < lift.length := by have := Int.emod_lt_of_pos (rstep - (ph : Int)) (show (0 : Int) < lift.length by omega); omega
    have haq : hAt lift ⟨rcut, rstep, rlo, rhi⟩ ph = lift[q] := by
     unfold hAt atR
     rw [show (rstep - (ph : Int)) % (lift.length : Int) = (q : Int) from hq, Int.toNat_natCast, List.getD_eq_getElem?_getD, List.getElem?_eq_getElem hq2]; rfl
    rw [haq] at hh1
    have kar : ∀ W : World, Calls Try.prog 75 #[.int .i64 (rstep - (ph : Int)), .int .i64 lift.length] W fun e w' => e = .returned (.int .i64 (q : Int)) ∧ W = w' := fun W => by
     have := pf_r3_Around (rstep - (ph : Int)) (lift.length : Int) W (by omega) (by omega) ⟨by omega, by omega⟩
     rwa [hq] at this
    obtain ⟨lb, lo, lc2, hle, hlb, -, -, hlcell⟩ := Ints.cells (hl'.out.below hbE) (by omega)
    injection hle with e4 e5 e6
    subst e4 e6
    clear e5
    have hlc := hlcell q hq2
    obtain ⟨x, hx⟩ : ∃ x, lift[q] = x := ⟨_, rfl⟩
    rw [hx] at hlc hh1 haq
    have m1 := mul_in hc.1 hc.2 (b := adv) (B := 1000) (by omega) (by omega) (by decide)
    have m2 := mul_in ht.1 ht.2 (b := x) (B := 10000) (by omega) (by omega) (by decide)
    have m3 := Int.mul_nonneg ht.1 hh1.1
    have hstep : stpS lift throw adv rcut ph (o1, o2) ⟨rcut, rstep, rlo, rhi⟩ = (max o1 (rlo - (rcut * adv + throw * x)), min o2 (rhi - (rcut * adv + throw * x))) := by unfold stpS; rw [haq, if_pos rfl]
    rw [hstep] at hfold
    generalize hm1 : rcut * adv = ca at hstep hfold m1 ⊢
    generalize hm2 : throw * x = tx at hstep hfold m2 m3 ⊢
    have i3 : (0 : Int) ≤ (q : Int) := by omega
    have i4 : (q : Int) < (lift.length : Int) := by omega
    rw [← ifmax, ← ifmin] at hfold
    obtain ⟨y1, hy1⟩ : ∃ y, (if o1 < rlo - (ca + tx) then rlo - (ca + tx) else o1) = y := ⟨_, rfl⟩
    obtain ⟨y2, hy2⟩ : ∃ y, (if rhi - (ca + tx) < o2 then rhi - (ca + tx) else o2) = y := ⟨_, rfl⟩
    have hI2 : Below w.heap.size w ((W3.setCell ⟨P2, 0, none⟩ (.int .i64 y1)).setCell ⟨P2, 1, none⟩ (.int .i64 y2)) ∧ ((W3.setCell ⟨P2, 0, none⟩ (.int .i64 y1)).setCell ⟨P2, 1, none⟩ (.int .i64 y2)).heap[w.heap.size]? = some (.cells #[.slice HA p.hs.length hhc, .int .i64 p.tl, .int .i64 p.th, .int .i64 p.al, .int .i64 p.ah, .slice (some ⟨bq, off, none⟩) p.rds.length rc] 25) ∧ ((W3.setCell ⟨P2, 0, none⟩ (.int .i64 y1)).setCell ⟨P2, 1, none⟩ (.int .i64 y2)).heap[P1]? = some (.cells #[.int .i64 0, .int .i64 0] 90) ∧ ((W3.setCell ⟨P2, 0, none⟩ (.int .i64 y1)).setCell ⟨P2, 1, none⟩ (.int .i64 y2)).heap[P2]? = some (.cells #[.int .i64 y1, .int .i64 y2] 90) :=
     ⟨pset2b hbE (by omega) _ _, (pset2o _ _ _ _ _ (by omega)).trans (blk hb3 ka), (pset2o _ _ _ _ _ (by omega)).trans (blk hb3 kb), pset2 kc3 _ _⟩
    rw [← hy1, ← hy2] at hI2
    clear hy1 hy2
    have ⟨hI', hbw', ka', kb', kc', hfold', hO', hmem'⟩ := hyd8 hI hbw ka kb kc hfold hO hmem
    have ⟨hrr', hb3', k3', kc3', hbE', hstep', hI2', kar'⟩ := hyd8 hrr hb3 k3 kc3 hbE hstep hI2 kar
    have ⟨hq', haq', hx', hlcell'⟩ := hyd4 hq haq hx hlcell
    clear hlcell hx haq hq kar hI2 hstep hbE kc3 k3 hb3 hrr hmem hO hfold kc kb ka hbw hI
    go_wp2_with (first | (go_at_call 75; ((with_reducible refine (kar'.out _).mono ?_); rintro e w' ⟨rfl, rfl⟩)) | fail)
    go_roundw
    case rel => exact ⟨j + 1, by omega, by go_num, Lib.hid (by rw [hfold'.out]; exact hI2'.out)⟩
    case measure => simp [intOf]; omega
   ·have hstep : stpS lift throw adv cut ph (o1, o2) ⟨rcut, rstep, rlo, rhi⟩ = (o1, o2) := by unfold stpS; exact if_neg hcut
    rw [hstep] at hfold
    have hI2 : Below w.heap.size w W3 ∧ W3.heap[w.heap.size]? = some (.cells #[.slice HA p.hs.length hhc, .int .i64 p.tl, .int .i64 p.th, .int .i64 p.al, .int .i64 p.ah, .slice (some ⟨bq, off, none⟩) p.rds.length rc] 25) ∧ W3.heap[P1]? = some (.cells #[.int .i64 0, .int .i64 0] 90) ∧ W3.heap[P2]? = some (.cells #[.int .i64 o1, .int .i64 o2] 90) := ⟨hbE, blk hb3 ka, blk hb3 kb, kc3⟩
    have ⟨hI', hbw', ka', kb', kc', hfold', hO', hmem'⟩ := hyd8 hI hbw ka kb kc hfold hO hmem
    have ⟨hro', hrr', hb3', k3', kc3', hbE', hstep', hI2'⟩ := hyd8 hro hrr hb3 k3 kc3 hbE hstep hI2
    clear hI2 hstep hbE kc3 k3 hb3 hrr hro hmem hO hfold kc kb ka hbw hI
    go_wp2
    go_roundw
    case rel => exact ⟨j + 1, by omega, by go_num, Lib.hid (by rw [hfold'.out]; exact hI2'.out)⟩
    case measure => simp [intOf]; omega
  ·obtain rfl : j = p.rds.length := by omega
   rw [List.take_length, ← startS_eq] at kc
   obtain ⟨O, hO⟩ : ∃ O, startS p.rds lift throw adv cut ph = O := ⟨_, rfl⟩
   rw [hO] at kc
   obtain ⟨o1, o2⟩ := O
   dsimp only at kc
   obtain ⟨x0, x1⟩ := pc2 kc
   obtain ⟨y0, y1⟩ := pc2 kb
   have f0 := pfrz kb 0
   have f1 := pfrz kb 1
   have n1 : ¬ P2 = P1 := by omega
   have n2 : ¬ P1 = P2 := by omega
   obtain ⟨W4, hW4, hb4, k4⟩ : ∃ V, (wr.setCell ⟨P1, 0, none⟩ (.int .i64 o1)).setCell ⟨P1, 1, none⟩ (.int .i64 o2) = V ∧ Below w.heap.size w V ∧ V.heap[P1]? = some (.cells #[.int .i64 o1, .int .i64 o2] 90) := ⟨_, rfl, pset2b hbw (by omega) _ _, pset2 kb _ _⟩
   obtain ⟨d0, d1⟩ := pc2 k4
   have ⟨hI', hbw', ka', kb', kc', hO', hb4', k4'⟩ := hyd8 hI hbw ka kb kc hO hb4 k4
   clear k4 hb4 hO kc kb ka hbw hI
   go_wp2
   exact bodyPost_ret (v := .agg #[.int .i64 o1, .int .i64 o2]) (by simp [results, Try.results40, go_sem, d0, d1]) rfl ⟨by rw [hO'.out], hb4'.out⟩
end Go.Proofs.Ytkblockodaiigaa
