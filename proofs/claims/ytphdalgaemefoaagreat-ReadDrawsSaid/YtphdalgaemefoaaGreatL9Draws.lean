/- Whether a program reads as a picture says: the law's reads. The simplest program for what was found draws what was read, and none that is simpler does: plain laws of ReadDraws. The least turn that makes one rosette another: rosette.Match. The walk of ReadDraws from its last loop on. The simplest program for what was found draws what was read, and none that is simpler does: the law ReadDraws. -/
import Derived.Test.YtphdalgaemefoaaGreatP4Moire
import Derived.Test.YtphdalgaemefoaaGreatRdSee
import Derived.Test.YtphdalgaemefoaaGreatAgainLaw
import Derived.Test.YtphdalgaemefoaaGreatFndLaw
import Derived.Test.YtphdalgaemefoaaGreatRos2
import Derived.Test.YtphdalgaemefoaaGreatRdSimV
import Derived.Test.YtphdalgaemefoaaGreatRdPict
import Derived.BigRegion
namespace Go.Proofs.YtphdalgaemefoaaGreat
set_option maxRecDepth 100000
set_option maxHeartbeats 8000000
open Go.RowKit
set_option linter.unusedVariables false
set_option linter.unusedSimpArgs false
def rdFitB (p : Prog) (r : Rd) : Bool := decide (cutE p r.cut = 0) && (decide (r.step < (p.ros.length : Int)) && (decide (r.lo ≤ (cutL p r.cut).getD r.step.toNat 0) && decide ((cutL p r.cut).getD r.step.toNat 0 ≤ r.hi)))
def readsB (p : Prog) (L : List Rd) : Bool := L.all (rdFitB p)
theorem reads_no {p : Prog} {L : List Rd} {r : Rd} (hr : r ∈ L) (h : rdFitB p r = false) : readsB p L = false := by
 rw [Bool.eq_false_iff]
 intro h9
 rw [readsB, List.all_eq_true] at h9
 rw [h9 r hr] at h
 cases h
theorem reads_yes {p : Prog} {L : List Rd} (h : ∀ j, j < L.length → rdFitB p (L.getD j default) = true) : readsB p L = true := by
 rw [readsB, List.all_eq_true]
 intro r hr
 obtain ⟨j, hj, rfl⟩ := List.getElem_of_mem hr
 have := h j hj
 rwa [List.getD_eq_getElem?_getD, List.getElem?_eq_getElem hj] at this
theorem pf_l9_reads (v vp : Value) (p : Prog) (q : Pic) (w : World) (hv : IsProg w v p) (hp : IsPic w vp q) (hst : ∀ r ∈ q.rds, 0 ≤ r.step) :
  Calls Tryz.prog 9 #[v, vp] w fun e w' => e = .returned (.bool (readsB p q.rds)) ∧ Below w.heap.size w w' := by
 have hv9 := hv
 obtain ⟨v0, v1, v5, rfl, h0, h1, h5⟩ := hv
 obtain ⟨A0, m0, rfl, -⟩ := id h0
 obtain ⟨A1, m1, rfl, -⟩ := id h1
 obtain ⟨A5, m5, rfl, -⟩ := id h5
 obtain ⟨rl, hrl⟩ : ∃ n, p.ros.length = n := ⟨_, rfl⟩
 obtain ⟨bl, hbl⟩ : ∃ n, p.rub.length = n := ⟨_, rfl⟩
 obtain ⟨sl, hsl⟩ : ∃ n, p.shifts.length = n := ⟨_, rfl⟩
 rw [hrl, hbl, hsl] at hv9 ⊢
 have hp9 := hp
 obtain ⟨vh, vr, rfl, hh, hr⟩ := hp
 obtain ⟨HA, hc, rfl, -⟩ := hh.slice
 obtain ⟨RA, rc, rfl, hrm⟩ := hr.slice
 unfold maxLen at hrm
 obtain ⟨W1, hW1, hb1, g1⟩ := newb w (.cells #[.slice A0 rl m0, .slice A1 bl m1, .int .i64 p.start, .int .i64 p.throw, .int .i64 p.adv, .slice A5 sl m5] 38)
 obtain ⟨W2, hW2, hb2, k2⟩ := newb W1 (.cells #[.slice HA q.hs.length hc, .int .i64 q.tl, .int .i64 q.th, .int .i64 q.al, .int .i64 q.ah, .slice RA q.rds.length rc] 25)
 have hbw2 := bel_set hb1 hb2
 have g2 := blk hb2 g1
 obtain ⟨c0, c1, c2, c3, c4, c5⟩ := pc6 k2
 have hB0 : Below w.heap.size w W2 := hbw2
 have hbb0 : Below W2.heap.size W2 W2 := Below.refl _ _
 have hN0 : ∀ j, j < 0 → rdFitB p (q.rds.getD j default) = true := fun j h => absurd h (Nat.not_lt_zero j)
 have ⟨hv9', h0', h1', h5', hrl', hbl', hsl', hp9'⟩ := hyd8 hv9 h0 h1 h5 hrl hbl hsl hp9
 have ⟨hh', hr', hb1', g1', hb2', k2', hbw2', g2'⟩ := hyd8 hh hr hb1 g1 hb2 k2 hbw2 g2
 have ⟨hB0', hbb0', hN0', hst'⟩ := hyd4 hB0 hbb0 hN0 hst
 clear hst hN0 hbb0 hB0 g2 hbw2 k2 hb2 g1 hb1 hr hh hp9 hsl hbl hrl h5 h1 h0 hv9
 go_enter Tryz.func9, Tryz.ntmps9
 go_wp2_with (fail)
 clear hW1 hW2 c0 c1 c2 c3 c4 c5
 go_loopw [12] (fun kx wr => ∃ k : Nat, k ≤ q.rds.length ∧ kx = .int .i64 (k : Int) ∧ Hid (Below W2.heap.size W2 wr) ∧ Hid (∀ j, j < k → rdFitB p (q.rds.getD j default) = true)) (fun kx _ => q.rds.length - (intOf kx).toNat)
 case atStart => exact ⟨0, Nat.zero_le _, rfl, hbb0', hN0'⟩
 case round =>
  obtain ⟨k, hk, rfl, hB, hN⟩ := hrel
  have hbw := bel_set hbw2'.out hB.out
  by_cases hlt : k < q.rds.length
  ·obtain ⟨b, off, c2, heq, hblt, g0, ga, gb, gc⟩ := RdsL.cells (hr'.out.le hbw) hlt
   injection heq with e1 e2 e3
   subst e1 e3
   clear e2
   have hmem := List.getElem_mem hlt
   have hget : q.rds.getD k default = q.rds[k] := by rw [List.getD_eq_getElem?_getD, List.getElem?_eq_getElem hlt]; rfl
   have hs0 := hst'.out _ hmem
   obtain ⟨⟨ct, st, lo, hi⟩, hrr⟩ : ∃ r, q.rds[k] = r := ⟨_, rfl⟩
   rw [hrr] at g0 ga gb gc hmem hget hs0
   dsimp only at g0 ga gb gc hs0
   have j1 : (k : Int) < (q.rds.length : Int) := by omega
   have j2 : (0 : Int) ≤ (k : Int) := by omega
   obtain ⟨W3, hW3, hb3, t3⟩ := newb wr (.cells #[.int .i64 ct, .int .i64 st, .int .i64 lo, .int .i64 hi] 54)
   have hB3 := bel_set hB.out hb3
   have hbw3 := bel_set hbw2'.out hB3
   obtain ⟨d0, d1, d2, d3, d4, d5⟩ := pc6 (blk hB3 g2'.out)
   obtain ⟨t0, t1, t2, tq⟩ := pc4 t3
   obtain ⟨E, hE⟩ : ∃ E, cutE p ct = E := ⟨_, rfl⟩
   have kcu := pf_pat_Cut _ p ct W3 (hv9'.out.below hbw3) E hE
   have hfit : rdFitB p ⟨ct, st, lo, hi⟩ = (decide (E = 0) && (decide (st < (rl : Int)) && (decide (lo ≤ (cutL p ct).getD st.toNat 0) && decide ((cutL p ct).getD st.toNat 0 ≤ hi)))) := by unfold rdFitB; dsimp only; rw [hE, hrl'.out]
   have ⟨hB', hN', hbw', hmem', hget', hrr', hb3', t3'⟩ := hyd8 hB hN hbw hmem hget hrr hb3 t3
   have ⟨hB3', hbw3', hE', kcu', hfit'⟩ := hyd5 hB3 hbw3 hE kcu hfit
   clear hfit kcu hE hbw3 hB3 t3 hb3 hrr hget hmem hbw hN hB
   go_wp2_with (fail)
   clear hW3 g0 ga gb gc
   go_at_call 30
   refine kcu'.out.mono ?_
   rintro e W4 ⟨vc, rfl, hb4, hoc⟩
   have hB4 := bel_set hB3'.out hb4
   have hbw4 := bel_set hbw2'.out hB4
   clear d0 d1 d2 d3 d4 d5 t0 t1 t2 tq
   obtain ⟨t0, t1, t2, tq⟩ := pc4 (blk hb4 t3'.out)
   by_cases hE0 : E = 0
   ·subst hE0
    rw [show onOk 0 (cutL p ct) = cutL p ct from rfl, cutL_length, hrl'.out] at hoc
    have hio := Arr.of_own (xs := cutL p ct) (n := rl) hoc
    obtain ⟨VA, vcc, rfl⟩ := slice_formR hoc
    by_cases hs1 : st < (rl : Int)
    ·obtain ⟨s, rfl⟩ : ∃ s : Nat, st = s := ⟨st.toNat, by omega⟩
     have hsl : s < (cutL p ct).length := by rw [cutL_length, hrl'.out]; omega
     have hlen : (cutL p ct).length = rl := by rw [cutL_length, hrl'.out]
     have hio2 := hio
     obtain ⟨b9, o9, c9, heq, hb9, -, -, hcell⟩ := Ints.cells hio (by rw [hlen]; omega)
     injection heq with e1 e2 e3
     subst e1 e3
     clear e2
     have q0 := hcell s hsl
     have hgx : (cutL p ct).getD (s : Int).toNat 0 = (cutL p ct)[s] := by rw [Int.toNat_natCast, List.getD_eq_getElem?_getD, List.getElem?_eq_getElem hsl]; rfl
     rw [hgx] at hfit'
     obtain ⟨x, hx⟩ : ∃ x, (cutL p ct)[s] = x := ⟨_, rfl⟩
     rw [hx] at q0 hfit'
     have i1 : (0 : Int) ≤ (s : Int) := by omega
     have i2 : ¬ (rl : Int) ≤ (s : Int) := by omega
     have hd1 : decide ((rl : Int) ≤ (s : Int)) = false := decide_eq_false i2
     have i2n : ¬ rl ≤ s := by omega
     have hd1n : decide (rl ≤ s) = false := decide_eq_false i2n
     have i3 : (s : Int) < (rl : Int) := hs1
     by_cases hlo : x < lo
     ·have hd2 : decide (x < lo) = true := decide_eq_true hlo
      have hf := hfit'.out
      have hfF : rdFitB p ⟨ct, (s : Int), lo, hi⟩ = false := by rw [hf, decide_eq_false (show ¬ lo ≤ x by omega)]; simp
      have hres := reads_no hmem'.out hfF
      have ⟨hb4', hoc', hB4', hbw4', hio2', hcell', hf', hfF'⟩ := hyd8 hb4 hoc hB4 hbw4 hio2 hcell hf hfF
      have ⟨hres', hx', hgx', hlen'⟩ := hyd4 hres hx hgx hlen
      clear hlen hgx hx hres hfF hf hcell hio2 hbw4 hB4 hoc hb4
      go_wp2
      go_quiet (fail)
      have hbq := hbw4'.out.trans (below_drewN' (Below.refl w.heap.size W4) nq)
      generalize W4.drewN nq = W5 at hbq ⊢
      have hbq' := hyd1 hbq
      clear hbq
      go_wp2
      go_ret
      exact ⟨by rw [hres'.out]; rfl, hbq'.out⟩
     ·have hd2 : decide (x < lo) = false := decide_eq_false hlo
      by_cases hhi : hi < x
      ·have hd3 : decide (hi < x) = true := decide_eq_true hhi
       have hf := hfit'.out
       have hfF : rdFitB p ⟨ct, (s : Int), lo, hi⟩ = false := by rw [hf, decide_eq_false (show ¬ x ≤ hi by omega)]; simp
       have hres := reads_no hmem'.out hfF
       have ⟨hb4', hoc', hB4', hbw4', hio2', hcell', hf', hfF'⟩ := hyd8 hb4 hoc hB4 hbw4 hio2 hcell hf hfF
       have ⟨hres', hx', hgx', hlen'⟩ := hyd4 hres hx hgx hlen
       clear hlen hgx hx hres hfF hf hcell hio2 hbw4 hB4 hoc hb4
       go_wp2
       go_quiet (fail)
       have hbq := hbw4'.out.trans (below_drewN' (Below.refl w.heap.size W4) nq)
       generalize W4.drewN nq = W5 at hbq ⊢
       have hbq' := hyd1 hbq
       clear hbq
       go_wp2
       go_ret
       exact ⟨by rw [hres'.out]; rfl, hbq'.out⟩
      ·have hd3 : decide (hi < x) = false := decide_eq_false hhi
       have hf := hfit'.out
       have hfT : rdFitB p ⟨ct, (s : Int), lo, hi⟩ = true := by rw [hf, decide_eq_true (show lo ≤ x by omega), decide_eq_true (show x ≤ hi by omega), decide_eq_true hs1]; rfl
       have hN9 : ∀ j, j < k + 1 → rdFitB p (q.rds.getD j default) = true := fun j hj => by
        by_cases e : j = k
        ·subst e; rw [hget'.out]; exact hfT
        ·exact hN'.out.out j (by omega)
       have ⟨hb4', hoc', hB4', hbw4', hio2', hcell', hf', hfT'⟩ := hyd8 hb4 hoc hB4 hbw4 hio2 hcell hf hfT
       have ⟨hN9', hx', hgx', hlen'⟩ := hyd4 hN9 hx hgx hlen
       clear hlen hgx hx hN9 hfT hf hcell hio2 hbw4 hB4 hoc hb4
       go_wp2
       go_quiet (fail)
       have hbq := hB4'.out.trans (below_drewN' (Below.refl W2.heap.size W4) nq)
       generalize W4.drewN nq = W5 at hbq ⊢
       have hbq' := hyd1 hbq
       clear hbq
       go_wp2
       go_roundw
       case rel => exact ⟨k + 1, by omega, by go_num, hbq', hN9'⟩
       case measure => simp [intOf]; omega
    ·have hf := hfit'.out
     have hfF : rdFitB p ⟨ct, st, lo, hi⟩ = false := by rw [hf, decide_eq_false hs1]; simp
     have hres := reads_no hmem'.out hfF
     have i2 : (rl : Int) ≤ st := by omega
     have hd1 : decide ((rl : Int) ≤ st) = true := decide_eq_true i2
     have ⟨hb4', hoc', hio', hB4', hbw4', hf', hfF', hres'⟩ := hyd8 hb4 hoc hio hB4 hbw4 hf hfF hres
     clear hres hfF hf hbw4 hB4 hio hoc hb4
     go_wp2
     go_quiet (fail)
     have hbq := hbw4'.out.trans (below_drewN' (Below.refl w.heap.size W4) nq)
     generalize W4.drewN nq = W5 at hbq ⊢
     have hbq' := hyd1 hbq
     clear hbq
     go_wp2
     go_ret
     exact ⟨by rw [hres'.out]; rfl, hbq'.out⟩
   ·have hf := hfit'.out
    have hfF : rdFitB p ⟨ct, st, lo, hi⟩ = false := by rw [hf, decide_eq_false hE0]; simp
    have hres := reads_no hmem'.out hfF
    have hEb : (E != 0) = true := by simpa using hE0
    obtain ⟨VA, vcc, rfl⟩ := slice_formR hoc
    generalize (onOk E (cutL p ct)).length = ol at hoc ⊢
    have ⟨hb4', hoc', hB4', hbw4', hf', hfF', hres'⟩ := hyd7 hb4 hoc hB4 hbw4 hf hfF hres
    clear hres hfF hf hbw4 hB4 hoc hb4
    go_wp2
    go_quiet (fail)
    have hbq := hbw4'.out.trans (below_drewN' (Below.refl w.heap.size W4) nq)
    generalize W4.drewN nq = W5 at hbq ⊢
    have hbq' := hyd1 hbq
    clear hbq
    go_wp2
    go_ret
    exact ⟨by rw [hres'.out]; rfl, hbq'.out⟩
  ·obtain rfl : k = q.rds.length := by omega
   have hres := reads_yes hN.out
   have ⟨hB', hN', hbw', hres'⟩ := hyd4 hB hN hbw hres
   clear hres hbw hN hB
   go_wp2
   go_ret
   exact ⟨by rw [hres'.out]; rfl, hbw'.out⟩
end Go.Proofs.YtphdalgaemefoaaGreat
namespace Go.Proofs.YtphdalgaemefoaaGreat
set_option maxRecDepth 100000
set_option maxHeartbeats 8000000
set_option linter.unusedVariables false
theorem phases_iff {rds : List Rd} {lf : List Int} {t a s : Int} {j n : Nat} (hn : 0 < n) (hlf : lf.length = n) (hs : 0 ≤ s ∧ s ≤ 10000) (b : Int) :
  b % (n : Int) ∈ phasesAt rds lf t a s (j : Int) ↔ ∀ r ∈ rds, r.cut = (j : Int) → r.lo ≤ s + ((j : Int) * a + t * atR lf (r.step - b)) ∧ s + ((j : Int) * a + t * atR lf (r.step - b)) ≤ r.hi := by
 have hz : (0 : Int) < (n : Int) := by omega
 have g1 := Int.emod_nonneg b (by omega : (n : Int) ≠ 0)
 have g2 := Int.emod_lt_of_pos b hz
 obtain ⟨m, hm⟩ : ∃ m : Nat, b % (n : Int) = (m : Int) := ⟨(b % (n : Int)).toNat, by omega⟩
 have hat : ∀ r : Rd, atR lf (r.step - b) = hAt lf r m := fun r => by
  unfold hAt
  refine atR_mod _ _ _ ?_
  rw [hlf, ← hm, Int.sub_emod_emod]
 simp only [hat]
 rw [hm]
 unfold phasesAt
 constructor
 ·intro hin
  obtain ⟨ph, hph, hpe⟩ := List.mem_map.1 hin
  obtain ⟨-, hi⟩ := List.mem_filter.1 hph
  have : ph = m := by omega
  subst this
  exact (startS_in.1 (inB_iff.1 hi)).2
 ·intro hr
  exact List.mem_map.2 ⟨m, List.mem_filter.2 ⟨List.mem_range.2 (by omega), inB_iff.2 (startS_in.2 ⟨hs, hr⟩)⟩, rfl⟩
structure DrawIn (q : Pic) (f : Fnd) (s : Int) : Prop where
 ok : PicOk q
 mem : f ∈ foundL q
 lo : f.lo ≤ s
 hi : s ≤ f.hi
def drawH (q : Pic) (f : Fnd) : Hd := q.hs.getD f.head.toNat default
def drawX (q : Pic) (f : Fnd) (s : Int) (k : Int) (sh : List Int) : Prog := ⟨movedL (drawH q f).ros k, (drawH q f).rub, s, f.throw, f.adv, sh⟩
structure DrawOk (q : Pic) (f : Fnd) (s : Int) : Prop where
 h0 : 0 ≤ f.head
 h1 : f.head < (q.hs.length : Int)
 t : q.tl ≤ f.throw ∧ f.throw ≤ q.th
 a : q.al ≤ f.adv ∧ f.adv ≤ q.ah
 lo : 0 ≤ f.lo
 le : f.lo ≤ f.hi
 hi : f.hi ≤ 10000
 sr : 0 ≤ s ∧ s ≤ 10000
 fit : AllFit q.rds (q.lift f.head.toNat) f.throw f.adv s
 mem : drawH q f ∈ q.hs
 len : (drawH q f).ros.length = q.steps
 ros : rosOk (drawH q f).ros = true
 rub : rubOk (drawH q f).rub q.steps = true
 lift : q.lift f.head.toNat = liftL (drawH q f).ros (drawH q f).rub
theorem draw_range {q : Pic} {f : Fnd} (hm : f ∈ foundL q) : 0 ≤ f.head ∧ f.head < (q.hs.length : Int) ∧ 0 ≤ f.lo ∧ f.lo ≤ f.hi ∧ f.hi ≤ 10000 := by
 obtain ⟨h, t, a, sp, h1, h2, h3, h4, rfl⟩ := mem_found.1 hm
 have hle := found_le h4
 have e1 := (found_in h4 (x := sp.1) (Int.le_refl _) hle).1
 have e2 := (found_in h4 (x := sp.2) hle (Int.le_refl _)).1
 dsimp only
 omega
theorem DrawIn.get {q : Pic} {f : Fnd} {s : Int} (h : DrawIn q f s) : DrawOk q f s := by
 obtain ⟨hok, hm, hlo, hhi⟩ := h
 obtain ⟨r1, r2, r3, r4, r5⟩ := draw_range hm
 obtain ⟨hd, t, a, sp, h1, h2, h3, h4, rfl⟩ := mem_found.1 hm
 dsimp only at hlo hhi r1 r2 r3 r4 r5
 have hin := found_in h4 hlo hhi
 have hmem : drawH q ⟨hd, t, a, sp.1, sp.2⟩ ∈ q.hs := by
  unfold drawH
  show q.hs.getD ((hd : Int).toNat) default ∈ q.hs
  rw [Int.toNat_natCast, List.getD_eq_getElem?_getD, List.getElem?_eq_getElem h1]
  exact List.getElem_mem h1
 obtain ⟨b1, b2, b3⟩ := hok.head _ hmem
 exact ⟨r1, r2, h2, h3, r3, r4, r5, hin.1, hin.2, hmem, b1, b2, b3, rfl⟩
theorem draw_progE {q : Pic} {f : Fnd} {s k : Int} {sh : List Int} (hq : PicOk q) (h : DrawOk q f s) (h1 : 1 ≤ sh.length) (h12 : sh.length ≤ 12) (hsh : ∀ x ∈ sh, 0 ≤ x ∧ x < (q.steps : Int)) : progE (drawX q f s k sh) = 0 := by
 have r1 : rosOk (movedL (drawH q f).ros k) = true := moved_ros h.ros _
 have r2 : rubOk (drawH q f).rub (movedL (drawH q f).ros k).length = true := by rw [movedL_length, h.len]; exact h.rub
 have r3 : progB (drawX q f s k sh) = true := by
  have a1 := h.t
  have a2 := h.a
  have a3 := hq.tl
  have a4 := hq.th
  have a5 := hq.al
  have a6 := hq.ah
  refine progB_iff.2 ⟨h.sr, by show 1 ≤ f.throw ∧ f.throw ≤ 16; omega, by show -1000 ≤ f.adv ∧ f.adv ≤ 1000; omega, ⟨h1, h12⟩, fun i hi => ?_⟩
  have := hsh sh[i] (List.getElem_mem hi)
  show 0 ≤ sh[i] ∧ sh[i] < ((movedL (drawH q f).ros k).length : Int)
  rw [movedL_length, h.len]
  exact this
 have r4 : bothE (drawX q f s k sh).ros (drawX q f s k sh).rub = 0 := by
  unfold bothE
  rw [if_pos (show rosOk (drawX q f s k sh).ros = true from r1), if_pos (show rubOk (drawX q f s k sh).rub (drawX q f s k sh).ros.length = true from r2)]
 unfold progE
 rw [if_neg (by rw [r4]; simp), if_pos r3]
theorem draw_row {q : Pic} {f : Fnd} {s : Int} (h : DrawOk q f s) {j : Nat} (hj : j < (fitsL q f s).length) (b : Int) :
  memI ((fitsL q f s).getD j []) (b % (q.steps : Int)) = true ↔ ∀ r ∈ q.rds, r.cut = (j : Int) → r.lo ≤ s + ((j : Int) * f.adv + f.throw * atR (liftL (drawH q f).ros (drawH q f).rub) (r.step - b)) ∧ s + ((j : Int) * f.adv + f.throw * atR (liftL (drawH q f).ros (drawH q f).rub) (r.step - b)) ≤ r.hi := by
 have h0 := (rosOk_iff.1 h.ros).1
 rw [fitsL_getD _ _ _ _ hj, memI_iff, h.lift]
 exact phases_iff (by have := h.len; omega) (by rw [liftL_length, h.len]) h.sr b
theorem draw_cut {q : Pic} {f : Fnd} {s k : Int} {sh : List Int} (hq : PicOk q) (h : DrawOk q f s) (hp : progE (drawX q f s k sh) = 0) (j i : Nat) (hi : i < q.steps) :
  (cutL (drawX q f s k sh) (j : Int)).getD i 0 = s + ((j : Int) * f.adv + f.throw * atR (liftL (drawH q f).ros (drawH q f).rub) ((i : Int) - phSeq sh k j)) := by
 have hpx := benchFacts hp
 have xl : (drawX q f s k sh).ros.length = q.steps := by show (movedL _ _).length = _; rw [movedL_length, h.len]
 have hl : i < (cutL (drawX q f s k sh) (j : Int)).length := by rw [cutL_length, xl]; exact hi
 have hrub : rubOk (drawH q f).rub (drawH q f).ros.length = true := by rw [h.len]; exact h.rub
 rw [List.getD_eq_getElem?_getD, List.getElem?_eq_getElem hl]
 show (cutL (drawX q f s k sh) (j : Int))[i] = _
 rw [cutL_get]
 have e6 : atR (liftL (drawX q f s k sh).ros (drawX q f s k sh).rub) ((i : Int) - phaseI (drawX q f s k sh) (j : Int)) = atR (liftL (drawH q f).ros (drawH q f).rub) ((i : Int) - phSeq sh k j) := by
  show atR (liftL (movedL (drawH q f).ros k) (drawH q f).rub) _ = _
  rw [moved_lift h.ros hrub]
  refine atR_mod _ _ _ ?_
  rw [liftL_length]
  have e8 := phSeq_phase _ hpx j
  rw [xl] at e8
  have e8' : phSeq sh ((0 : Nat) : Int) j % (q.steps : Int) = phaseI (drawX q f s k sh) (j : Int) := e8
  have e9 : phSeq sh k j = k + phSeq sh ((0 : Nat) : Int) j := by unfold phSeq; simp only [Int.natCast_zero]; omega
  rw [e9, ← e8', h.len]
  rw [Int.sub_emod, Int.sub_emod (i : Int) (phSeq sh ((0 : Nat) : Int) j % (q.steps : Int)), Int.emod_emod]
  rw [← Int.sub_emod (i : Int) (phSeq sh ((0 : Nat) : Int) j), ← Int.sub_emod]
  congr 1
  omega
 rw [e6]
 show s + (j : Int) * f.adv + f.throw * _ = _
 omega
theorem draw_iff {q : Pic} {f : Fnd} {s k : Int} {sh : List Int} (hq : PicOk q) (h : DrawOk q f s) (hp : progE (drawX q f s k sh) = 0) :
  readsB (drawX q f s k sh) q.rds = true ↔ SeqFits (fitsL q f s) q.steps k sh := by
 have xl : (drawX q f s k sh).ros.length = q.steps := by show (movedL _ _).length = _; rw [movedL_length, h.len]
 obtain ⟨c1, c2, c3, -⟩ := lastC_le (rds := q.rds) fun r hr => (hq.rd r hr).1
 have hlen : (fitsL q f s).length = (lastC q.rds).toNat + 1 := by unfold fitsL; simp
 have key : ∀ r ∈ q.rds, (rdFitB (drawX q f s k sh) r = true ↔ r.lo ≤ s + (r.cut * f.adv + f.throw * atR (liftL (drawH q f).ros (drawH q f).rub) (r.step - phSeq sh k r.cut.toNat)) ∧ s + (r.cut * f.adv + f.throw * atR (liftL (drawH q f).ros (drawH q f).rub) (r.step - phSeq sh k r.cut.toNat)) ≤ r.hi) := fun r hr => by
  obtain ⟨a1, a2, a3, a4, a5⟩ := hq.rd r hr
  obtain ⟨j, hj⟩ : ∃ j : Nat, r.cut = j := ⟨r.cut.toNat, by omega⟩
  obtain ⟨i, hi⟩ : ∃ i : Nat, r.step = i := ⟨r.step.toNat, by omega⟩
  have hE : cutE (drawX q f s k sh) r.cut = 0 := by
   unfold cutE
   rw [if_neg (by rw [hp]; simp)]
   rw [if_pos (by unfold within; simp only [Bool.and_eq_true, decide_eq_true_eq]; omega)]
  have hst : r.step < ((drawX q f s k sh).ros.length : Int) := by rw [xl]; omega
  unfold rdFitB
  rw [decide_eq_true hE, decide_eq_true hst, Bool.true_and, Bool.true_and, Bool.and_eq_true, decide_eq_true_eq, decide_eq_true_eq, hj, hi, Int.toNat_natCast, Int.toNat_natCast, draw_cut hq h hp j i (by omega)]
 unfold readsB
 rw [List.all_eq_true]
 constructor
 ·intro hall j hj
  refine (draw_row h hj _).2 fun r hr hc => ?_
  have := (key r hr).1 (hall r hr)
  rw [hc, Int.toNat_natCast] at this
  exact this
 ·intro hfit r hr
  obtain ⟨a1, a2, a3, a4, a5⟩ := hq.rd r hr
  obtain ⟨j, hj⟩ : ∃ j : Nat, r.cut = j := ⟨r.cut.toNat, by omega⟩
  have hl := c3 r hr
  have := (draw_row h (j := j) (by omega) _).1 (hfit j (by omega)) r hr hj
  refine (key r hr).2 ?_
  rw [hj, Int.toNat_natCast]
  exact this
theorem draw_fits {q : Pic} {f : Fnd} {s : Int} (hin : DrawIn q f s) : fitsE q f s = 0 ∧ fitsV q f s = fitsL q f s := by
 have h := hin.get
 have harg : argB q f s = true := by
  have b0 := h.h0
  have b1 := h.h1
  have b2 := h.t
  have b3 := h.a
  have b4 := h.sr
  have b5 := hin.lo
  have b6 := hin.hi
  unfold argB
  simp only [Bool.and_eq_true, decide_eq_true_eq]
  omega
 have hst := hin.ok.steps
 have hany : (fitsL q f s).any (fun l => l.isEmpty) = false := by
  rw [List.any_eq_false]
  intro l hl
  obtain ⟨j, hj, rfl⟩ := List.getElem_of_mem hl
  obtain ⟨c1, c2, c3, -⟩ := lastC_le (rds := q.rds) fun r hr => (hin.ok.rd r hr).1
  have hlen : (fitsL q f s).length = (lastC q.rds).toNat + 1 := by unfold fitsL; simp
  obtain ⟨ph, p1, p2⟩ := h.fit j (by omega)
  rw [fitsL_get]
  intro he
  rw [List.isEmpty_iff] at he
  have : (ph : Int) ∈ phasesAt q.rds (q.lift f.head.toNat) f.throw f.adv s (j : Int) := by
   unfold phasesAt
   exact List.mem_map.2 ⟨ph, List.mem_filter.2 ⟨List.mem_range.2 p1, inB_iff.2 (startS_in.2 ⟨h.sr, p2⟩)⟩, rfl⟩
  rw [he] at this
  cases this
 have e0 : fitsE q f s = 0 := by
  unfold fitsE
  rw [picB_iff.2 hin.ok, if_pos rfl, harg, if_pos rfl, hany, if_neg (by decide)]
 exact ⟨e0, by unfold fitsV; rw [e0, if_pos rfl]⟩
def diffL (P : Nat → Int) (m : Nat) : List Int := (List.range m).map fun i => P (i + 1) - P i
theorem diffL_length (P : Nat → Int) (m : Nat) : (diffL P m).length = m := by simp [diffL]
theorem diffL_take (P : Nat → Int) (m : Nat) : ∀ k, k ≤ m → ((diffL P m).take k).sum = P k - P 0
 | 0, _ => by simp
 | k + 1, h => by
  have hl : k < (diffL P m).length := by rw [diffL_length]; omega
  have e : (diffL P m)[k] = P (k + 1) - P k := by simp [diffL]
  rw [List.take_succ_eq_append_getElem hl, List.sum_append, diffL_take P m k (by omega), List.sum_singleton, e]
  omega
theorem draw_some {q : Pic} {f : Fnd} {s : Int} (hin : DrawIn q f s) : ∃ (j : Nat) (sh : List Int), j < q.steps ∧ 1 ≤ sh.length ∧ sh.length ≤ 12 ∧ SeqFits (fitsL q f s) q.steps (j : Int) sh := by
 have h := hin.get
 obtain ⟨c1, c2, c3, -⟩ := lastC_le (rds := q.rds) fun r hr => (hin.ok.rd r hr).1
 have hlen : (fitsL q f s).length = (lastC q.rds).toNat + 1 := by unfold fitsL; simp
 have hP : ∀ j : Nat, ∃ P : Nat, j < 12 → P < q.steps ∧ FitAt q.rds (q.lift f.head.toNat) f.throw f.adv (j : Int) P s := fun j => by
  by_cases hj : j < 12
  ·obtain ⟨ph, p1, p2⟩ := h.fit j hj
   refine ⟨ph, fun _ => ⟨?_, p2⟩⟩
   rw [h.lift, liftL_length, h.len] at p1
   exact p1
  ·exact ⟨0, fun h => absurd h hj⟩
 obtain ⟨P, hP⟩ : ∃ P : Nat → Nat, ∀ j, j < 12 → P j < q.steps ∧ FitAt q.rds (q.lift f.head.toNat) f.throw f.adv (j : Int) (P j) s := ⟨fun j => (hP j).choose, fun j => (hP j).choose_spec⟩
 refine ⟨P 0, diffL (fun j => (P j : Int)) (fitsL q f s).length, (hP 0 (by decide)).1, by rw [diffL_length]; omega, by rw [diffL_length]; omega, fun j hj => ?_⟩
 have e : phSeq (diffL (fun j => (P j : Int)) (fitsL q f s).length) ((P 0 : Nat) : Int) j = (P j : Int) := by
  unfold phSeq
  rw [diffL_length, Nat.div_eq_of_lt hj, Nat.mod_eq_of_lt hj, diffL_take _ _ j (by omega)]
  simp
  omega
 rw [e, draw_row h hj]
 intro r hr hc
 have := (hP j (by omega)).2 r hr hc
 rw [h.lift] at this
 exact this
theorem draw_simple {q : Pic} {f : Fnd} {s : Int} (hin : DrawIn q f s) : ∃ (first : Nat) (l : List Int), simpE q f s = 0 ∧ simpP q f s = drawX q f s (first : Int) l ∧ first < q.steps ∧ 1 ≤ l.length ∧ l.length ≤ 12 ∧ progE (drawX q f s (first : Int) l) = 0 ∧ readsB (drawX q f s (first : Int) l) q.rds = true ∧
  ∀ (k : Nat) (sh : List Int), k < q.steps → 1 ≤ sh.length → sh.length ≤ 12 → (∀ x ∈ sh, 0 ≤ x ∧ x < (q.steps : Int)) → readsB (drawX q f s (k : Int) sh) q.rds = true → l.length ≤ sh.length ∧ (l.length = sh.length → first ≤ k) := by
 have h := hin.get
 obtain ⟨e0, ev⟩ := draw_fits hin
 obtain ⟨j, sh0, g1, g2, g3, g4⟩ := draw_some hin
 obtain ⟨first, l, h1, h2, h3, h4, h5, h6, h7, h8⟩ := simple_le g1 g2 g3 g4
 have hp := draw_progE (k := (first : Int)) hin.ok h h3 h4 h5
 refine ⟨first, l, ?_, ?_, h2, h3, h4, hp, (draw_iff hin.ok h hp).2 h6, fun k sh k1 k2 k3 k4 k5 => ?_⟩
 ·unfold simpE
  rw [e0, if_pos rfl, ev, h1, if_neg (by simp)]
 ·unfold simpP
  rw [e0, if_pos rfl, ev, h1]
  rfl
 ·have hpk := draw_progE (k := (k : Int)) hin.ok h k2 k3 k4
  obtain ⟨first', l', m1, -, -, -, -, -, m2, m3⟩ := simple_le k1 k2 k3 ((draw_iff hin.ok h hpk).1 k5)
  rw [h1] at m1
  injection m1 with m1
  injection m1 with m1 m4
  subst m1 m4
  exact ⟨m2, m3⟩
end Go.Proofs.YtphdalgaemefoaaGreat
namespace Go.Proofs.YtphdalgaemefoaaGreat
set_option maxRecDepth 100000
set_option maxHeartbeats 8000000
open Go.RowKit
set_option linter.unusedVariables false
set_option linter.unusedSimpArgs false
theorem matches_head {f g : List Int} {k : Nat} (hk : k < f.length) (h : turnL f k = g) : ∃ (m : Nat) (L : List Int), matchesI f g f.length = (m : Int) :: L ∧ m ≤ k := by
 have hm : k ∈ matchesN f g f.length := by simp [matchesN, h, hk]
 have hp : (matchesN f g f.length).Pairwise (· < ·) := by
  unfold matchesN
  exact List.Pairwise.filter _ List.pairwise_lt_range
 unfold matchesI
 cases e : matchesN f g f.length with
 | nil => rw [e] at hm; cases hm
 | cons m L =>
  refine ⟨m, L.map (fun (n : Nat) => (n : Int)), rfl, ?_⟩
  rw [e] at hm hp
  rcases List.mem_cons.1 hm with rfl | hm
  ·exact Nat.le_refl _
  ·exact Nat.le_of_lt ((List.pairwise_cons.1 hp).1 _ hm)
theorem own_first {W : World} {base n : Nat} {r : Value} {m : Int} {L : List Int} (ho : W.ownsRow base 3 1 r n ((m :: L).map vint)) (hn : (m :: L).length = n) : ∃ b off c, r = .slice (some ⟨b, off, none⟩) n c ∧ W.cell? ⟨b, off, none⟩ = some (.int .i64 m) := by
 have hio : Ints W r (m :: L) := Arr.of_own ho
 obtain ⟨b, off, c, heq, hbl, -, -, hcell⟩ := Ints.cells hio (by simp)
 have q0 := hcell 0 (by simp)
 rw [Nat.add_zero, List.getElem_cons_zero] at q0
 rw [hn] at heq
 exact ⟨b, off, c, heq, q0⟩
theorem pf_ros_MatchOk (v v' : Value) (f g : List Int) (k : Nat) (w : World) (hv : Ints w v f) (hv' : Ints w v' g) (hf : rosOk f = true) (hg : rosOk g = true) (hk : k < f.length) (h : movedL f (k : Int) = g) :
  Calls Tryz.prog 10 #[v, v'] w fun e w' => ∃ m : Nat, e = .returned (.tuple #[.int .i64 (m : Int), .int .i64 0]) ∧ Below w.heap.size w w' ∧ m ≤ k := by
 have h1 := rosOk_iff.1 hf
 have cf := pf_ros_Check _ f w hv true hf
 have cg := pf_ros_Check _ g w hv' true hg
 have km := pf_matches _ _ f g w hv hv' (by omega)
 obtain ⟨m, L, hL, hmk⟩ := matches_head hk ((turn_moved f k (by omega)).trans h)
 rw [hL] at km
 obtain ⟨n, hn⟩ : ∃ n, ((m : Int) :: L).length = n := ⟨_, rfl⟩
 rw [hn] at km
 have hn0 : 0 < n := by rw [← hn]; simp
 obtain ⟨A, c, rfl, -⟩ := id hv
 obtain ⟨A', c', rfl, -⟩ := id hv'
 have i1 : (0 : Int) < (n : Int) := by omega
 have i2 : ((n : Int) == 0) = false := by simpa using (by omega : ¬ n = 0)
 have i3 : ¬ n = 0 := by omega
 have ⟨cf', cg', km', hv', hv'', hf', hg', h'⟩ := hyd8 cf cg km hv hv' hf hg h
 have ⟨h1', hL', hmk', hk', hn'⟩ := hyd5 h1 hL hmk hk hn
 clear hn hk hmk hL h1 h hg hf hv' hv km cg cf
 go_enter Tryz.func10, Tryz.ntmps10
 go_wp2_with (first | (go_at_call 25; first | (with_reducible refine (cf'.out).mono ?_; rintro e w' ⟨rfl, rfl⟩) | (with_reducible refine (cg'.out).mono ?_; rintro e w' ⟨rfl, rfl⟩)) | (go_at_call 31; refine (km'.out).mono ?_; rintro e W1 ⟨r, rfl, hb, ho⟩; obtain ⟨b, off, c9, rfl, q0⟩ := own_first ho hn'.out; have hb' := Lib.hid hb; clear hb ho))
 go_ret2
 exact ⟨m, rfl, hb'.out, hmk'.out⟩
end Go.Proofs.YtphdalgaemefoaaGreat
namespace Go.Proofs.YtphdalgaemefoaaGreat
set_option maxRecDepth 100000
set_option maxHeartbeats 8000000
open Go.RowKit
set_option linter.unusedVariables false
set_option linter.unusedSimpArgs false
abbrev Bytes9 := Arr (fun n : Nat => Value.int .u8 (n : Int))
theorem Arr.cells9 {α : Type} {f : α → Value} {w : World} {v : Value} {L : List α} (h : Arr f w v L) (h0 : 0 < L.length) : ∃ la lo c, v = .slice (some ⟨la, lo, none⟩) L.length c ∧ la < w.heap.size ∧ ∀ k (hk : k < L.length), w.cell? ⟨la, lo + k, none⟩ = some (f L[k]) := by
 obtain ⟨A, c, rfl, h1, h2, _, hr⟩ := h
 obtain ⟨la, lo, rfl, hb, hc⟩ := hr h0
 exact ⟨la, lo, c, rfl, hb, hc⟩
theorem Ints.off {X : Nat} {a0 a b : World} {v : Value} {L : List Int} (h : Ints a0 v L) (hz : a0.heap.size ≤ X) (hb : Below a0.heap.size a0 a) (hr : (offRel X).r a b) : Ints b v L :=
 h.below (offRel.below hr hb hz hb.size)
def tryL (n : Nat) (sh : List Nat) : List Int := sh.map fun x => ((x % n : Nat) : Int)
theorem tryL_length (n : Nat) (sh : List Nat) : (tryL n sh).length = sh.length := by simp [tryL]
theorem tryL_take {n : Nat} {sh : List Nat} {k : Nat} (h : k < sh.length) : (tryL n sh).take (k + 1) = (tryL n sh).take k ++ [((sh[k] % n : Nat) : Int)] := by
 rw [List.take_succ_eq_append_getElem (by rw [tryL_length]; exact h)]
 simp [tryL]
theorem tryL_mem {n : Nat} {sh : List Nat} (hn : 0 < n) : ∀ x ∈ tryL n sh, 0 ≤ x ∧ x < (n : Int) := by
 intro x hx
 obtain ⟨y, -, rfl⟩ := List.mem_map.1 hx
 have := Nat.mod_lt y hn
 omega
def nrm (R : Act → World → Prop) : Exit → Act → World → Prop := fun e a w => match e with | .normal => R a w | _ => False
def DwPost (w : World) (e : Ending) (w' : World) : Prop := e = .returned (.bool true) ∧ Below w.heap.size w w'
noncomputable def dw25 : Code := (fromRegionN 25 ((Tryz.f3).body.getD .skip)).getD 0 .skip
noncomputable def dw27 : Code := (fromRegionN 27 ((Tryz.f3).body.getD .skip)).getD 0 .skip
structure DwI (n Y B : Nat) (vt vb : Value) (s th ad : Int) (sh : List Nat) (V : World) (k : Nat) (vo : Value) (W : World) : Prop where
 off : (offRel Y).r V W
 kY : W.heap[Y]? = some (.cells #[vt, vb, .int .i64 s, .int .i64 th, .int .i64 ad, vo] 38)
 own : W.ownsRow V.heap.size 3 1 vo k (((tryL n sh).take k).map vint)
theorem DwI.next {n Y B : Nat} {vt vb : Value} {s th ad : Int} {sh : List Nat} {V W W' : World} {k : Nat} {vo : Value} (h : DwI n Y B vt vb s th ad sh V k vo W) (hb : Below W.heap.size W W') : DwI n Y B vt vb s th ad sh V k vo W' :=
 ⟨(offRel Y).trans h.off ⟨⟨hb.os, hb.tape, hb.output⟩, hb.size, fun j hj _ => hb.block j hj⟩, blk hb h.kY, own_below h.own hb⟩
theorem DwI.put {n Y B : Nat} {vt vb : Value} {s th ad : Int} {sh : List Nat} {V W W' : World} {k : Nat} {vo v7 : Value} (h : DwI n Y B vt vb s th ad sh V k vo W) (hY : Y < V.heap.size) (hb : Below V.heap.size W W') (ho : W'.ownsRow V.heap.size 3 1 v7 (k + 1) (((tryL n sh).take (k + 1)).map vint)) :
  DwI n Y B vt vb s th ad sh V (k + 1) v7 (W'.setCell ⟨Y, 5, none⟩ v7) := by
 have hz := h.off.2.1
 have e2 := (hb.block Y hY).trans h.kY
 refine ⟨(offRel Y).trans (b := W') ⟨⟨hb.os.trans h.off.1.1, hb.tape.trans h.off.1.2.1, hb.output.trans h.off.1.2.2⟩, Nat.le_trans hz hb.size, fun j hj hne => (hb.block j hj).trans (h.off.2.2 j hj hne)⟩ (set1_off W' Y 5 v7), heap_setAt e2, own_apart ho hY _⟩
theorem draw_t25 (SA : Option Addr) (sl sc P0 XB HB by1 Y tn k n : Nat) (hA hB : Option Addr) (hc hbn hbc : Nat) (vt vb : Value) (s th ad : Int) (sh : List Nat) (V W : World) (hlt : k < sl) (hsl : sh.length = sl) (hsl12 : sl ≤ 12)
  (hn0 : 0 < n) (hn : n ≤ 1000) (h8 : ∀ b ∈ sh, b ≤ 255) (hSY : ∀ b o r, SA = some ⟨b, o, r⟩ → b ≠ Y) (hvs : Bytes9 V (.slice SA sl sc) sh) (hY : Y < V.heap.size) (hHB : V.heap[HB]? = some (.cells #[.slice hA n hc, .slice hB hbn hbc] 44)) (hHY : HB ≠ Y)
  (Q : Exit → Act → World → Prop) (vo : Value) (hI : DwI n Y 0 vt vb s th ad sh V k vo W)
  (hQ : ∀ (v7 : Value) (W' : World) (t' : Array Value), (∃ u : Nat → Value, t' = #[(u 0), (u 1), (u 2), (u 3), .slice SA sl sc, .pointer (some ⟨P0, 0, none⟩), (u 6), (u 7), (u 8), (u 9), .bool false, .bool true, (u 12), (u 13), (u 14), (u 15), .pointer (some ⟨XB, 0, none⟩), (u 17), .pointer (some ⟨HB, 0, none⟩), .int .i64 (by1 : Int), (u 20), .pointer (some ⟨Y, 0, none⟩), .int .i64 (tn : Int), (u 23), .int .i64 0, .int .i64 (k : Int), (u 26), (u 27), (u 28), (u 29), (u 30), (u 31), (u 32), (u 33), (u 34), (u 35), (u 36), (u 37), (u 38), (u 39), (u 40), (u 41), (u 42), (u 43), (u 44), (u 45), (u 46), (u 47), (u 48), (u 49), (u 50), (u 51), (u 52), (u 53), (u 54), (u 55), (u 56), (u 57), (u 58), (u 59), (u 60), (u 61), (u 62), (u 63), (u 64), (u 65), (u 66), (u 67), (u 68), (u 69), (u 70), (u 71), (u 72), (u 73), (u 74), (u 75), (u 76), (u 77), (u 78), (u 79), (u 80), (u 81), (u 82), (u 83), (u 84), (u 85), (u 86), (u 87), (u 88), (u 89), (u 90), (u 91), (u 92), (u 93), (u 94), (u 95), (u 96), (u 97), (u 98), (u 99), (u 100), (u 101), (u 102), (u 103), (u 104), (u 105), (u 106), (u 107), (u 108), (u 109), (u 110), (u 111), (u 112), (u 113), (u 114), (u 115), (u 116), (u 117), (u 118), (u 119), (u 120), (u 121), (u 122), (u 123), (u 124), (u 125), (u 126), (u 127), (u 128), (u 129), (u 130), (u 131), (u 132), (u 133), (u 134), (u 135), (u 136), (u 137), (u 138), (u 139), (u 140), (u 141), (u 142), (u 143), (u 144), (u 145), (u 146), (u 147), (u 148), (u 149), (u 150), (u 151), (u 152), (u 153), (u 154), (u 155), (u 156), (u 157), (u 158), (u 159), (u 160), (u 161), (u 162), (u 163), (u 164), (u 165), (u 166), (u 167), .int .i64 (sl : Int), .int .i64 (k : Int), (u 170), (u 171), (u 172), (u 173), (u 174), (u 175), (u 176), (u 177), (u 178), (u 179), (u 180), (u 181), (u 182), (u 183), (u 184), (u 185), (u 186), (u 187), (u 188), (u 189), (u 190), (u 191), (u 192), (u 193), (u 194), (u 195), (u 196), (u 197), (u 198), (u 199), (u 200), (u 201), (u 202), (u 203), (u 204), (u 205), (u 206), (u 207), (u 208), (u 209), (u 210), (u 211), (u 212), (u 213), (u 214), (u 215), (u 216), (u 217), (u 218), (u 219), (u 220), (u 221), (u 222), (u 223), (u 224), (u 225), (u 226), (u 227), (u 228), (u 229), (u 230)]) → DwI n Y 0 vt vb s th ad sh V (k + 1) v7 W' → Q .normal { tmps := t', defers := [] } W') (t' : Array Value) (ht : ∃ u : Nat → Value, t' = #[(u 0), (u 1), (u 2), (u 3), .slice SA sl sc, .pointer (some ⟨P0, 0, none⟩), (u 6), (u 7), (u 8), (u 9), .bool false, .bool true, (u 12), (u 13), (u 14), (u 15), .pointer (some ⟨XB, 0, none⟩), (u 17), .pointer (some ⟨HB, 0, none⟩), .int .i64 (by1 : Int), (u 20), .pointer (some ⟨Y, 0, none⟩), .int .i64 (tn : Int), (u 23), .int .i64 0, .int .i64 (k : Int), (u 26), (u 27), (u 28), (u 29), (u 30), (u 31), (u 32), (u 33), (u 34), (u 35), (u 36), (u 37), (u 38), (u 39), (u 40), (u 41), (u 42), (u 43), (u 44), (u 45), (u 46), (u 47), (u 48), (u 49), (u 50), (u 51), (u 52), (u 53), (u 54), (u 55), (u 56), (u 57), (u 58), (u 59), (u 60), (u 61), (u 62), (u 63), (u 64), (u 65), (u 66), (u 67), (u 68), (u 69), (u 70), (u 71), (u 72), (u 73), (u 74), (u 75), (u 76), (u 77), (u 78), (u 79), (u 80), (u 81), (u 82), (u 83), (u 84), (u 85), (u 86), (u 87), (u 88), (u 89), (u 90), (u 91), (u 92), (u 93), (u 94), (u 95), (u 96), (u 97), (u 98), (u 99), (u 100), (u 101), (u 102), (u 103), (u 104), (u 105), (u 106), (u 107), (u 108), (u 109), (u 110), (u 111), (u 112), (u 113), (u 114), (u 115), (u 116), (u 117), (u 118), (u 119), (u 120), (u 121), (u 122), (u 123), (u 124), (u 125), (u 126), (u 127), (u 128), (u 129), (u 130), (u 131), (u 132), (u 133), (u 134), (u 135), (u 136), (u 137), (u 138), (u 139), (u 140), (u 141), (u 142), (u 143), (u 144), (u 145), (u 146), (u 147), (u 148), (u 149), (u 150), (u 151), (u 152), (u 153), (u 154), (u 155), (u 156), (u 157), (u 158), (u 159), (u 160), (u 161), (u 162), (u 163), (u 164), (u 165), (u 166), (u 167), .int .i64 (sl : Int), .int .i64 (k : Int), (u 170), (u 171), (u 172), (u 173), (u 174), (u 175), (u 176), (u 177), (u 178), (u 179), (u 180), (u 181), (u 182), (u 183), (u 184), (u 185), (u 186), (u 187), (u 188), (u 189), (u 190), (u 191), (u 192), (u 193), (u 194), (u 195), (u 196), (u 197), (u 198), (u 199), (u 200), (u 201), (u 202), (u 203), (u 204), (u 205), (u 206), (u 207), (u 208), (u 209), (u 210), (u 211), (u 212), (u 213), (u 214), (u 215), (u 216), (u 217), (u 218), (u 219), (u 220), (u 221), (u 222), (u 223), (u 224), (u 225), (u 226), (u 227), (u 228), (u 229), (u 230)]) :
  dw25.wp Tryz.prog Q { tmps := t', defers := [] } W := by
 obtain ⟨u, rfl⟩ := ht
 refine Code.wp_mono (Q := nrm fun a W' => (∃ u : Nat → Value, a = { tmps := #[(u 0), (u 1), (u 2), (u 3), .slice SA sl sc, .pointer (some ⟨P0, 0, none⟩), (u 6), (u 7), (u 8), (u 9), .bool false, .bool true, (u 12), (u 13), (u 14), (u 15), .pointer (some ⟨XB, 0, none⟩), (u 17), .pointer (some ⟨HB, 0, none⟩), .int .i64 (by1 : Int), (u 20), .pointer (some ⟨Y, 0, none⟩), .int .i64 (tn : Int), (u 23), .int .i64 0, .int .i64 (k : Int), (u 26), (u 27), (u 28), (u 29), (u 30), (u 31), (u 32), (u 33), (u 34), (u 35), (u 36), (u 37), (u 38), (u 39), (u 40), (u 41), (u 42), (u 43), (u 44), (u 45), (u 46), (u 47), (u 48), (u 49), (u 50), (u 51), (u 52), (u 53), (u 54), (u 55), (u 56), (u 57), (u 58), (u 59), (u 60), (u 61), (u 62), (u 63), (u 64), (u 65), (u 66), (u 67), (u 68), (u 69), (u 70), (u 71), (u 72), (u 73), (u 74), (u 75), (u 76), (u 77), (u 78), (u 79), (u 80), (u 81), (u 82), (u 83), (u 84), (u 85), (u 86), (u 87), (u 88), (u 89), (u 90), (u 91), (u 92), (u 93), (u 94), (u 95), (u 96), (u 97), (u 98), (u 99), (u 100), (u 101), (u 102), (u 103), (u 104), (u 105), (u 106), (u 107), (u 108), (u 109), (u 110), (u 111), (u 112), (u 113), (u 114), (u 115), (u 116), (u 117), (u 118), (u 119), (u 120), (u 121), (u 122), (u 123), (u 124), (u 125), (u 126), (u 127), (u 128), (u 129), (u 130), (u 131), (u 132), (u 133), (u 134), (u 135), (u 136), (u 137), (u 138), (u 139), (u 140), (u 141), (u 142), (u 143), (u 144), (u 145), (u 146), (u 147), (u 148), (u 149), (u 150), (u 151), (u 152), (u 153), (u 154), (u 155), (u 156), (u 157), (u 158), (u 159), (u 160), (u 161), (u 162), (u 163), (u 164), (u 165), (u 166), (u 167), .int .i64 (sl : Int), .int .i64 (k : Int), (u 170), (u 171), (u 172), (u 173), (u 174), (u 175), (u 176), (u 177), (u 178), (u 179), (u 180), (u 181), (u 182), (u 183), (u 184), (u 185), (u 186), (u 187), (u 188), (u 189), (u 190), (u 191), (u 192), (u 193), (u 194), (u 195), (u 196), (u 197), (u 198), (u 199), (u 200), (u 201), (u 202), (u 203), (u 204), (u 205), (u 206), (u 207), (u 208), (u 209), (u 210), (u 211), (u 212), (u 213), (u 214), (u 215), (u 216), (u 217), (u 218), (u 219), (u 220), (u 221), (u 222), (u 223), (u 224), (u 225), (u 226), (u 227), (u 228), (u 229), (u 230)], defers := [] }) ∧ ∃ v7, DwI n Y 0 vt vb s th ad sh V (k + 1) v7 W') (fun e a W' h => ?_) ?_
 ·cases e with
  | normal =>
   obtain ⟨⟨u, rfl⟩, v7, h⟩ := h
   exact hQ v7 W' _ ⟨u, rfl⟩ h
  | _ => exact h.elim
 clear hQ
 conv => arg 2; whnf
 have hks : k < sh.length := by omega
 obtain ⟨la, lo, c9, heq, hla, hcell⟩ := Arr.cells9 hvs (by omega)
 rw [hsl] at heq
 injection heq with e1 e2 e3
 subst e1 e3
 clear e2
 have hb0 := h8 _ (List.getElem_mem hks)
 have hck0 := hcell k hks
 have htk := tryL_take (n := n) hks
 obtain ⟨x, hx⟩ : ∃ x, sh[k] = x := ⟨_, rfl⟩
 rw [hx] at hck0 hb0 htk
 have hck : W.cell? ⟨la, lo + k, none⟩ = some (.int .u8 (x : Int)) := (World.cell?_of_block (a := ⟨la, lo + k, none⟩) (hI.off.2.2 la hla (hSY _ _ _ rfl))).trans hck0
 have kH := offRel.blk hI.off hHB hHY
 obtain ⟨ch0, ch1⟩ := pc2 kH
 obtain ⟨-, -, -, -, -, cy5⟩ := pc6 hI.kY
 have fy5 := pfrz hI.kY 5
 obtain ⟨c, hc⟩ : ∃ c, x % n = c := ⟨_, rfl⟩
 rw [hc] at htk
 have x1 : (x : Int).tmod (n : Int) = (c : Int) := by rw [← hc]; rfl
 have y1 : (x : Int) % (n : Int) = (c : Int) := by rw [← hc]; rfl
 have s1 : IntKind.i64.wrap (x : Int) = (x : Int) := IntWalk.i64_in _ (by omega)
 have r1 : ¬ (n : Int) = 0 := by omega
 have r2 : ¬ n = 0 := by omega
 have r3 : (0 : Int) < (n : Int) := by omega
 have r4 : (0 : Int) ≤ (x : Int) := by omega
 have j1 : (k : Int) < (sl : Int) := by omega
 have j2 : (0 : Int) ≤ (k : Int) := by omega
 obtain ⟨AO, cO, rfl⟩ := slice_formR hI.own
 have hba : Below W.heap.size W (W.drew.alloc (.cells #[.int .i64 (c : Int)] 3)) := ((Below.refl W.heap.size W).drew).alloc (show W.heap.size ≤ W.drew.heap.size from Nat.le_refl _) _
 have hIa := hI.next hba
 have hone : Ints (W.drew.alloc (.cells #[.int .i64 (c : Int)] 3)) (.slice (some ⟨W.heap.size, 0, none⟩) 1 1) [(c : Int)] := one_newI W.drew (c : Int) 3
 have hVz : V.heap.size ≤ (W.drew.alloc (.cells #[.int .i64 (c : Int)] 3)).heap.size := Nat.le_trans hI.off.2.1 hba.size
 have hlk : ((tryL n sh).take k).length = k := by rw [List.length_take, tryL_length]; omega
 have zY : Y < W.heap.size := gsl hI.kY
 have ⟨hcell', hb0', hck0', htk', hx', hI', kH', hc'⟩ := hyd8 hcell hb0 hck0 htk hx hI kH hc
 have ⟨hba', hIa', hone', hVz', hlk', hvs', hHB', hsl'⟩ := hyd8 hba hIa hone hVz hlk hvs hHB hsl
 have ⟨h8', hla'⟩ := hyd2 h8 hla
 clear hla h8 hsl hHB hvs hlk hVz hone hIa hba hc kH hI hx htk hck0 hb0 hcell
 go_wp2_with (fail)
 go_region_law (refine step_appI rfl _ _ 36 rfl V.heap.size 3 elemInt (.slice AO k cO) ((tryL n sh).take k) rfl (by rw [hlk'.out]; exact hIa'.out.own) (.slice (some ⟨W.heap.size, 0, none⟩) 1 1) [(c : Int)] rfl hone'.out (by rw [hlk'.out]; simp; omega) hVz'.out ?_; intro v7 w7 q1 q2 q3 q4; have kq7 := (q2.block Y hY).trans hIa'.out.kY; obtain ⟨-, -, -, -, -, cq7⟩ := pc6 kq7; have fq7 := pfrz kq7 5; have q1b : w7.ownsRow V.heap.size 3 1 v7 (k + 1) (((tryL n sh).take (k + 1)).map vint) := (by rw [List.length_append, List.length_singleton, hlk'.out] at q1; rw [htk'.out]; exact q1); obtain ⟨A7, c7, rfl⟩ := slice_formR q1b; have hN := hIa'.out.put hY q2 q1b; have hN' := Lib.hid hN; clear hN q1 q2 q3 q4 kq7 q1b)
 all_goals
  go_wp2
  obtain ⟨u2, hu2⟩ : ∃ u : Nat → Value, _ = #[(u 0), (u 1), (u 2), (u 3), .slice (some ⟨la, lo, none⟩) sl sc, .pointer (some ⟨P0, 0, none⟩), (u 6), (u 7), (u 8), (u 9), .bool false, .bool true, (u 12), (u 13), (u 14), (u 15), .pointer (some ⟨XB, 0, none⟩), (u 17), .pointer (some ⟨HB, 0, none⟩), .int .i64 (by1 : Int), (u 20), .pointer (some ⟨Y, 0, none⟩), .int .i64 (tn : Int), (u 23), .int .i64 0, .int .i64 (k : Int), (u 26), (u 27), (u 28), (u 29), (u 30), (u 31), (u 32), (u 33), (u 34), (u 35), (u 36), (u 37), (u 38), (u 39), (u 40), (u 41), (u 42), (u 43), (u 44), (u 45), (u 46), (u 47), (u 48), (u 49), (u 50), (u 51), (u 52), (u 53), (u 54), (u 55), (u 56), (u 57), (u 58), (u 59), (u 60), (u 61), (u 62), (u 63), (u 64), (u 65), (u 66), (u 67), (u 68), (u 69), (u 70), (u 71), (u 72), (u 73), (u 74), (u 75), (u 76), (u 77), (u 78), (u 79), (u 80), (u 81), (u 82), (u 83), (u 84), (u 85), (u 86), (u 87), (u 88), (u 89), (u 90), (u 91), (u 92), (u 93), (u 94), (u 95), (u 96), (u 97), (u 98), (u 99), (u 100), (u 101), (u 102), (u 103), (u 104), (u 105), (u 106), (u 107), (u 108), (u 109), (u 110), (u 111), (u 112), (u 113), (u 114), (u 115), (u 116), (u 117), (u 118), (u 119), (u 120), (u 121), (u 122), (u 123), (u 124), (u 125), (u 126), (u 127), (u 128), (u 129), (u 130), (u 131), (u 132), (u 133), (u 134), (u 135), (u 136), (u 137), (u 138), (u 139), (u 140), (u 141), (u 142), (u 143), (u 144), (u 145), (u 146), (u 147), (u 148), (u 149), (u 150), (u 151), (u 152), (u 153), (u 154), (u 155), (u 156), (u 157), (u 158), (u 159), (u 160), (u 161), (u 162), (u 163), (u 164), (u 165), (u 166), (u 167), .int .i64 (sl : Int), .int .i64 (k : Int), (u 170), (u 171), (u 172), (u 173), (u 174), (u 175), (u 176), (u 177), (u 178), (u 179), (u 180), (u 181), (u 182), (u 183), (u 184), (u 185), (u 186), (u 187), (u 188), (u 189), (u 190), (u 191), (u 192), (u 193), (u 194), (u 195), (u 196), (u 197), (u 198), (u 199), (u 200), (u 201), (u 202), (u 203), (u 204), (u 205), (u 206), (u 207), (u 208), (u 209), (u 210), (u 211), (u 212), (u 213), (u 214), (u 215), (u 216), (u 217), (u 218), (u 219), (u 220), (u 221), (u 222), (u 223), (u 224), (u 225), (u 226), (u 227), (u 228), (u 229), (u 230)] := frame_mkN _ _ (by kernel_rfl)
  exact ⟨⟨u2, by rw [← hu2]⟩, _, hN'.out⟩
end Go.Proofs.YtphdalgaemefoaaGreat
namespace Go.Proofs.YtphdalgaemefoaaGreat
set_option maxRecDepth 100000
set_option maxHeartbeats 8000000
open Go.RowKit
set_option linter.unusedVariables false
set_option linter.unusedSimpArgs false
theorem bytes_of9 {w : World} {v : Value} {xs : List Int} (h : Arr (Value.int .u8) w v xs) (hw : ∀ n ∈ xs, (Lit.int .u8 n).wf = true) : Bytes9 w v (xs.map Int.toNat) ∧ ∀ b ∈ xs.map Int.toNat, b ≤ 255 := by
 have hb : ∀ n ∈ xs, 0 ≤ n ∧ n ≤ 255 := fun n hn => by
  have h' : IntKind.u8.min ≤ n ∧ n ≤ IntKind.u8.max := by simpa [Lit.wf] using hw n hn
  exact h'
 constructor
 ·obtain ⟨A, c, rfl, h1, h2, h3, h4⟩ := h
  refine ⟨A, c, by simp, by simpa using h1, h2, h3, fun h0 => ?_⟩
  obtain ⟨b, off, e, hbl, hc⟩ := h4 (by simpa using h0)
  refine ⟨b, off, e, hbl, fun j hj => ?_⟩
  have hj' : j < xs.length := by simpa using hj
  rw [hc j hj', List.getElem_map]
  have := hb _ (List.getElem_mem hj')
  simp only [Option.some.injEq, Value.int.injEq, true_and]
  omega
 ·intro b hbm
  obtain ⟨x, hx, rfl⟩ := List.mem_map.1 hbm
  have := hb x hx
  omega
theorem Bytes9.le {w W : World} {v : Value} {L : List Nat} (h : Bytes9 w v L) (hb : Below w.heap.size w W) : Bytes9 W v L := h.below hb
theorem drawH_at {q : Pic} {h : Nat} {t a lo hi : Int} (hh : h < q.hs.length) : drawH q ⟨(h : Int), t, a, lo, hi⟩ = q.hs[h] := by
 unfold drawH
 show q.hs.getD ((h : Int).toNat) default = _
 rw [Int.toNat_natCast, List.getD_eq_getElem?_getD, List.getElem?_eq_getElem hh]
 rfl
def seqLD : Code → Code
 | .seq a _ => a
 | c => c
def seqRD : Code → Code
 | .seq _ b => b
 | c => c
noncomputable def dw18 : Code := (fromRegionN 18 ((Tryz.f3).body.getD .skip)).getD 0 .skip
def DwRel (V : World) (SA : Option Addr) (sl sc P0 XB HB by1 Y tn n : Nat) (vt vb : Value) (s th ad : Int) (sh : List Nat) (a : Act) (W : World) : Prop :=
 ∃ (t : Array Value) (k : Nat) (vo : Value), a = { tmps := t, defers := [] } ∧ (∃ u : Nat → Value, t = #[(u 0), (u 1), (u 2), (u 3), .slice SA sl sc, .pointer (some ⟨P0, 0, none⟩), (u 6), (u 7), (u 8), (u 9), .bool false, .bool true, (u 12), (u 13), (u 14), (u 15), .pointer (some ⟨XB, 0, none⟩), (u 17), .pointer (some ⟨HB, 0, none⟩), .int .i64 (by1 : Int), (u 20), .pointer (some ⟨Y, 0, none⟩), .int .i64 (tn : Int), (u 23), .int .i64 0, (u 25), (u 26), (u 27), (u 28), (u 29), (u 30), (u 31), (u 32), (u 33), (u 34), (u 35), (u 36), (u 37), (u 38), (u 39), (u 40), (u 41), (u 42), (u 43), (u 44), (u 45), (u 46), (u 47), (u 48), (u 49), (u 50), (u 51), (u 52), (u 53), (u 54), (u 55), (u 56), (u 57), (u 58), (u 59), (u 60), (u 61), (u 62), (u 63), (u 64), (u 65), (u 66), (u 67), (u 68), (u 69), (u 70), (u 71), (u 72), (u 73), (u 74), (u 75), (u 76), (u 77), (u 78), (u 79), (u 80), (u 81), (u 82), (u 83), (u 84), (u 85), (u 86), (u 87), (u 88), (u 89), (u 90), (u 91), (u 92), (u 93), (u 94), (u 95), (u 96), (u 97), (u 98), (u 99), (u 100), (u 101), (u 102), (u 103), (u 104), (u 105), (u 106), (u 107), (u 108), (u 109), (u 110), (u 111), (u 112), (u 113), (u 114), (u 115), (u 116), (u 117), (u 118), (u 119), (u 120), (u 121), (u 122), (u 123), (u 124), (u 125), (u 126), (u 127), (u 128), (u 129), (u 130), (u 131), (u 132), (u 133), (u 134), (u 135), (u 136), (u 137), (u 138), (u 139), (u 140), (u 141), (u 142), (u 143), (u 144), (u 145), (u 146), (u 147), (u 148), (u 149), (u 150), (u 151), (u 152), (u 153), (u 154), (u 155), (u 156), (u 157), (u 158), (u 159), (u 160), (u 161), (u 162), (u 163), (u 164), (u 165), (u 166), (u 167), .int .i64 (sl : Int), .int .i64 (k : Int), (u 170), (u 171), (u 172), (u 173), (u 174), (u 175), (u 176), (u 177), (u 178), (u 179), (u 180), (u 181), (u 182), (u 183), (u 184), (u 185), (u 186), (u 187), (u 188), (u 189), (u 190), (u 191), (u 192), (u 193), (u 194), (u 195), (u 196), (u 197), (u 198), (u 199), (u 200), (u 201), (u 202), (u 203), (u 204), (u 205), (u 206), (u 207), (u 208), (u 209), (u 210), (u 211), (u 212), (u 213), (u 214), (u 215), (u 216), (u 217), (u 218), (u 219), (u 220), (u 221), (u 222), (u 223), (u 224), (u 225), (u 226), (u 227), (u 228), (u 229), (u 230)]) ∧ k ≤ sl ∧ DwI n Y 0 vt vb s th ad sh V k vo W
theorem draw_18 (a0 : Pic) (w W : World) (SA : Option Addr) (HA RA : Option Addr) (hc rc sl sc P0 XB HB by1 tu first rn rm ln : Nat) (X0 X1 X5 R0 R1 : Option Addr) (z0 z1 z5 r0 r1 r1n : Nat) (s : Int) (f : Fnd) (l : List Int) (sh : List Nat) (H : Hd)
  (hin : DrawIn a0 f s) (hH : drawH a0 f = H) (hrn : a0.steps = rn) (hrm : H.rub.length = rm) (hln : l.length = ln) (hln1 : 1 ≤ ln) (hln12 : ln ≤ 12) (hby : by1 ≤ first) (htu : tu ≤ 255) (hsl : sh.length = sl) (hsl12 : sl ≤ 12) (h8 : ∀ b ∈ sh, b ≤ 255)
  (hbest : ∀ (k : Nat) (sh : List Int), k < a0.steps → 1 ≤ sh.length → sh.length ≤ 12 → (∀ x ∈ sh, 0 ≤ x ∧ x < (a0.steps : Int)) → readsB (drawX a0 f s (k : Int) sh) a0.rds = true → l.length ≤ sh.length ∧ (l.length = sh.length → first ≤ k))
  (hvs : Bytes9 W (.slice SA sl sc) sh) (hp : IsPic W (.agg #[.slice HA a0.hs.length hc, .int .i64 a0.tl, .int .i64 a0.th, .int .i64 a0.al, .int .i64 a0.ah, .slice RA a0.rds.length rc]) a0)
  (kP : W.heap[P0]? = some (.cells #[.slice HA a0.hs.length hc, .int .i64 a0.tl, .int .i64 a0.th, .int .i64 a0.al, .int .i64 a0.ah, .slice RA a0.rds.length rc] 25))
  (kX : W.heap[XB]? = some (.cells #[.slice X0 rn z0, .slice X1 rm z1, .int .i64 s, .int .i64 f.throw, .int .i64 f.adv, .slice X5 ln z5] 38))
  (kH : W.heap[HB]? = some (.cells #[.slice R0 rn r0, .slice R1 r1n r1] 44))
  (iX1 : Ints W (.slice X1 rm z1) H.rub) (iR0 : Ints W (.slice R0 rn r0) H.ros) (hbw : Below w.heap.size w W) (t : Array Value) (ht : ∃ u : Nat → Value, t = #[(u 0), (u 1), (u 2), .int .u8 (tu : Int), .slice SA sl sc, .pointer (some ⟨P0, 0, none⟩), (u 6), (u 7), (u 8), (u 9), .bool false, .bool true, (u 12), (u 13), (u 14), (u 15), .pointer (some ⟨XB, 0, none⟩), (u 17), .pointer (some ⟨HB, 0, none⟩), .int .i64 (by1 : Int), (u 20), (u 21), (u 22), (u 23), (u 24), (u 25), (u 26), (u 27), (u 28), (u 29), (u 30), (u 31), (u 32), (u 33), (u 34), (u 35), (u 36), (u 37), (u 38), (u 39), (u 40), (u 41), (u 42), (u 43), (u 44), (u 45), (u 46), (u 47), (u 48), (u 49), (u 50), (u 51), (u 52), (u 53), (u 54), (u 55), (u 56), (u 57), (u 58), (u 59), (u 60), (u 61), (u 62), (u 63), (u 64), (u 65), (u 66), (u 67), (u 68), (u 69), (u 70), (u 71), (u 72), (u 73), (u 74), (u 75), (u 76), (u 77), (u 78), (u 79), (u 80), (u 81), (u 82), (u 83), (u 84), (u 85), (u 86), (u 87), (u 88), (u 89), (u 90), (u 91), (u 92), (u 93), (u 94), (u 95), (u 96), (u 97), (u 98), (u 99), (u 100), (u 101), (u 102), (u 103), (u 104), (u 105), (u 106), (u 107), (u 108), (u 109), (u 110), (u 111), (u 112), (u 113), (u 114), (u 115), (u 116), (u 117), (u 118), (u 119), (u 120), (u 121), (u 122), (u 123), (u 124), (u 125), (u 126), (u 127), (u 128), (u 129), (u 130), (u 131), (u 132), (u 133), (u 134), (u 135), (u 136), (u 137), (u 138), (u 139), (u 140), (u 141), (u 142), (u 143), (u 144), (u 145), (u 146), (u 147), (u 148), (u 149), (u 150), (u 151), (u 152), (u 153), (u 154), (u 155), (u 156), (u 157), (u 158), (u 159), (u 160), (u 161), (u 162), (u 163), (u 164), (u 165), (u 166), (u 167), (u 168), (u 169), (u 170), (u 171), (u 172), (u 173), (u 174), (u 175), (u 176), (u 177), (u 178), (u 179), (u 180), (u 181), (u 182), (u 183), (u 184), (u 185), (u 186), (u 187), (u 188), (u 189), (u 190), (u 191), (u 192), (u 193), (u 194), (u 195), (u 196), (u 197), (u 198), (u 199), (u 200), (u 201), (u 202), (u 203), (u 204), (u 205), (u 206), (u 207), (u 208), (u 209), (u 210), (u 211), (u 212), (u 213), (u 214), (u 215), (u 216), (u 217), (u 218), (u 219), (u 220), (u 221), (u 222), (u 223), (u 224), (u 225), (u 226), (u 227), (u 228), (u 229), (u 230)]) :
  ∀ K : Act → World → Prop, (∀ a w1, (seqRD dw18).wp Tryz.prog (bodyPost Tryz.prog Tryz.f3 (DwPost w)) a w1 → K a w1) → (seqLD dw18).wp Tryz.prog (Exit.then K (bodyPost Tryz.prog Tryz.f3 (DwPost w))) { tmps := t, defers := [] } W := by
 intro K hK
 obtain ⟨u, rfl⟩ := ht
 conv => arg 2; whnf
 have hg := hin.get
 have hst := hin.ok.steps
 have hHl : H.ros.length = rn := by rw [← hH, hg.len, hrn]
 have hHo : rosOk H.ros = true := by rw [← hH]; exact hg.ros
 obtain ⟨tn, htn⟩ : ∃ k, tu % rn = k := ⟨_, rfl⟩
 have htl : tn < rn := by rw [← htn]; exact Nat.mod_lt _ (by omega)
 have x1 : (tu : Int).tmod (rn : Int) = (tn : Int) := by rw [← htn]; rfl
 have y1 : (tu : Int) % (rn : Int) = (tn : Int) := by rw [← htn]; rfl
 have q1 : ¬ (rn : Int) = 0 := by omega
 have q2 : ¬ rn = 0 := by omega
 have q3 : (0 : Int) < (rn : Int) := by omega
 have q4 : 0 < rn := by omega
 have s1 : IntKind.i64.wrap (tu : Int) = (tu : Int) := IntWalk.i64_in _ (by omega)
 have s3 : (0 : Int) ≤ (tu : Int) := by omega
 obtain ⟨c0, c1, c2, c3, c4, c5⟩ := pc6 kX
 obtain ⟨W2, hW2, hb2, k2⟩ := newb W (.cells #[.slice X0 rn z0, .slice X1 rm z1, .int .i64 s, .int .i64 f.throw, .int .i64 f.adv, .slice X5 ln z5] 38)
 have kH2 := blk hb2 kH
 obtain ⟨d0, d1⟩ := pc2 kH2
 have ktu := pf_rd_Turned _ H.ros tn W2 (iR0.below hb2) hHo (by omega)
 rw [hHl] at ktu
 have ⟨hin', hH', hrn', hrm', hln', hby', hsl', h8'⟩ := hyd8 hin hH hrn hrm hln hby hsl h8
 have ⟨hbest', hvs', hp', kP', kX', kH', iX1', iR0'⟩ := hyd8 hbest hvs hp kP kX kH iX1 iR0
 have ⟨hbw', hg', hst', hHl', hHo', htn', hb2', k2'⟩ := hyd8 hbw hg hst hHl hHo htn hb2 k2
 have ⟨kH2', ktu'⟩ := hyd2 kH2 ktu
 clear ktu kH2 k2 hb2 htn hHo hHl hst hg hbw iR0 iX1 kH kX kP hp hvs hbest h8 hsl hby hln hrm hrn hH hin
 go_wp2_with (fail)
 conv => arg 2; whnf
 go_wp2_with (fail)
 clear hW2 c0 c1 c2 c3 c4 c5
 go_at_call 12
 refine ktu'.out.mono ?_
 rintro e W3 ⟨vt, rfl, hb3, hto⟩
 have k3 := blk hb3 k2'.out
 obtain ⟨e0, -⟩ := pc6 k3
 have f0 := pfrz k3 0
 have f5 := pfrz k3 5
 have hYz : W.heap.size < W2.heap.size := gsl k2'.out
 obtain ⟨TA, tc, rfl⟩ := slice_formR hto
 obtain ⟨W4, hW4, hb4, k4, f54, o4, off4⟩ : ∃ V, (W3.setCell ⟨W.heap.size, 0, none⟩ (.slice TA rn tc)) = V ∧ Below W.heap.size W V ∧ V.heap[W.heap.size]? = some (.cells #[.slice TA rn tc, .slice X1 rm z1, .int .i64 s, .int .i64 f.throw, .int .i64 f.adv, .slice X5 ln z5] 38) ∧ V.frozen? ⟨W.heap.size, 5, none⟩ = false ∧ V.ownsRow W2.heap.size 3 1 (.slice TA rn tc) rn ((movedL H.ros (tn : Int)).map vint) ∧ W2.heap.size ≤ V.heap.size :=
  ⟨_, rfl, (bel_set hb2'.out hb3).setCell (p := ⟨W.heap.size, 0, none⟩) (Nat.le_refl _) _, heap_setAt k3, pfrz (heap_setAt k3) 5, own_apart hto hYz _, by have := hb3.size; simp [World.setCell]; exact this⟩
 obtain ⟨W5, hW5, hb5, k5, o5, off5⟩ : ∃ V, (W4.setCell ⟨W.heap.size, 5, none⟩ (.slice none 0 0)) = V ∧ Below W.heap.size W V ∧ V.heap[W.heap.size]? = some (.cells #[.slice TA rn tc, .slice X1 rm z1, .int .i64 s, .int .i64 f.throw, .int .i64 f.adv, .slice none 0 0] 38) ∧ V.ownsRow W2.heap.size 3 1 (.slice TA rn tc) rn ((movedL H.ros (tn : Int)).map vint) ∧ W2.heap.size ≤ V.heap.size :=
  ⟨_, rfl, hb4.setCell (p := ⟨W.heap.size, 5, none⟩) (Nat.le_refl _) _, heap_setAt k4, own_apart o4 hYz _, by simp [World.setCell]; exact off4⟩
 obtain ⟨-, -, -, -, -, e5⟩ : W4.cell? ⟨W.heap.size, 0, none⟩ = some (.slice TA rn tc) ∧ W4.cell? ⟨W.heap.size, 1, none⟩ = some (.slice X1 rm z1) ∧ W4.cell? ⟨W.heap.size, 2, none⟩ = some (.int .i64 s) ∧ W4.cell? ⟨W.heap.size, 3, none⟩ = some (.int .i64 f.throw) ∧ W4.cell? ⟨W.heap.size, 4, none⟩ = some (.int .i64 f.adv) ∧ W4.cell? ⟨W.heap.size, 5, none⟩ = some (.slice X5 ln z5) := pc6 k4
 have ⟨hb3', hto', k3', hb4', k4', o4', off4', hb5'⟩ := hyd8 hb3 hto k3 hb4 k4 o4 off4 hb5
 have ⟨k5', o5', off5', hYz'⟩ := hyd4 k5 o5 off5 hYz
 clear hYz off5 o5 k5 hb5 off4 o4 k4 hb4 k3 hto hb3
 go_wp2_with (fail)
 clear hW4 hW5 f0 f5 f54 d0 d1 x1 y1 s1 e0 e5
 have hYV : W.heap.size < W5.heap.size := Nat.lt_of_lt_of_le hYz'.out off5'.out
 have hvs5 := Bytes9.le hvs'.out hb5'.out
 have kH5 := blk hb5'.out kH'.out
 have hHY : HB ≠ W.heap.size := Nat.ne_of_lt (gsl kH'.out)
 have hSY : 0 < sl → ∀ b o r, SA = some ⟨b, o, r⟩ → b ≠ W.heap.size := by
  intro h0 b o r e
  obtain ⟨A, c, heq, a1, a2, a3, a4⟩ := hvs'.out
  injection heq with e1 e2 e3
  subst e1
  obtain ⟨b', o', e', hb', -⟩ := a4 (by rw [hsl'.out]; exact h0)
  rw [e] at e'
  injection e' with e'
  injection e' with e'
  omega
 have ⟨hvs5', kH5', hSY'⟩ := hyd3 hvs5 kH5 hSY
 clear hSY kH5 hvs5
 refine wp_loop (DwRel W5 SA sl sc P0 XB HB by1 W.heap.size tn rn (.slice TA rn tc) (.slice X1 rm z1) s f.throw f.adv sh) (fun a _ => sl - (intOf (a.tmps.getD 169 undef)).toNat) ?start ?round
 case start => exact ⟨_, 0, .slice none 0 0, rfl, frame_mkN _ _ (by kernel_rfl), Nat.zero_le _, ⟨(offRel _).refl _, k5'.out, World.ownsRow_nil _ _ _ _⟩⟩
 case round =>
  rintro a W6 ⟨t, k, vo, rfl, ⟨u, rfl⟩, hk, hI⟩
  by_cases hlt : k < sl
  ·have j3 : (k : Int) < (sl : Int) := by omega
   have j4 : (0 : Int) ≤ (k : Int) := by omega
   have hI' := hyd1 hI
   clear hI
   go_upto_region 25 with (fail)
   refine draw_t25 SA sl sc P0 XB HB by1 W.heap.size tn k rn R0 R1 r0 r1n r1 (.slice TA rn tc) (.slice X1 rm z1) s f.throw f.adv sh W5 W6 hlt hsl'.out hsl12 q4 (by have := hst'.out; have := hrn'.out; omega) h8'.out (hSY'.out (by omega)) hvs5'.out hYV kH5'.out hHY _ vo hI'.out ?_ _ (frame_mkN _ _ (by kernel_rfl))
   rintro v7 W7 t' ⟨u, rfl⟩ hI7
   have hI7' := hyd1 hI7
   clear hI7
   go_wp2
   exact ⟨⟨_, k + 1, v7, rfl, frame_mkN _ _ (by kernel_rfl), by omega, hI7'.out⟩, by simp [intOf]; omega⟩
  ·obtain rfl : sl = k := by omega
   have htk : (tryL rn sh).take sl = tryL rn sh := List.take_of_length_le (by rw [tryL_length, hsl'.out]; exact Nat.le_refl _)
   obtain ⟨AO, cO, rfl⟩ := slice_formR hI.own
   have hY6 : Below W.heap.size W W6 := offRel.below hI.off hb5'.out (Nat.le_refl _) hb5'.out.size
   have hbw6 : Below w.heap.size w W6 := bel_set hbw'.out hY6
   have kX6 := blk hY6 kX'.out
   have kP6 := blk hY6 kP'.out
   have hp6 := hp'.out.le hY6
   have iT := own_ints (own_off o5'.out hI.off hYz'.out)
   have iX := iX1'.out.below hY6
   have iS : Ints W6 (.slice AO sl cO) (tryL rn sh) := by have h9 := own_ints hI.own; rw [htk] at h9; exact h9
   have hyp : IsProg W6 (.agg #[.slice TA rn tc, .slice X1 rm z1, .int .i64 s, .int .i64 f.throw, .int .i64 f.adv, .slice AO sl cO]) (drawX a0 f s (tn : Int) (tryL rn sh)) :=
    ⟨_, _, _, rfl, by show Ints W6 _ (movedL (drawH a0 f).ros (tn : Int)); rw [hH'.out]; exact iT, by show Ints W6 _ (drawH a0 f).rub; rw [hH'.out]; exact iX, iS⟩
   have kre := pf_l9_reads _ _ _ a0 W6 hyp hp6 (fun r hr => (hin'.out.ok.rd r hr).2.1.1)
   obtain ⟨R, hR⟩ : ∃ R, readsB (drawX a0 f s (tn : Int) (tryL rn sh)) a0.rds = R := ⟨_, rfl⟩
   rw [hR] at kre
   have kY6 := hI.kY
   obtain ⟨y0, y1, y2, y3, y4, y5⟩ := pc6 kY6
   obtain ⟨p0, p1, p2, p3, p4, p5⟩ := pc6 kP6
   by_cases h0 : sl = 0
   ·subst h0
    have ⟨hI', hY6', hbw6', kX6', kP6', hp6', iT', iX'⟩ := hyd8 hI hY6 hbw6 kX6 kP6 hp6 iT iX
    have ⟨iS', hyp', kre', hR', kY6', htk'⟩ := hyd6 iS hyp kre hR kY6 htk
    clear htk kY6 hR kre hyp iS iX iT hp6 kP6 kX6 hbw6 hY6 hI
    go_wp2
    go_ret
    exact ⟨rfl, hbw6'.out⟩
   ·have h1 : ¬ (sl : Int) = 0 := by omega
    have h2 : ((sl : Int) == 0) = false := by simpa using h0
    have h3 : (0 : Int) < (sl : Int) := by omega
    have h4 : 0 < sl := by omega
    have ⟨hI', hY6', hbw6', kX6', kP6', hp6', iT', iX'⟩ := hyd8 hI hY6 hbw6 kX6 kP6 hp6 iT iX
    have ⟨iS', hyp', kre', hR', kY6', htk'⟩ := hyd6 iS hyp kre hR kY6 htk
    clear htk kY6 hR kre hyp iS iX iT hp6 kP6 kX6 hbw6 hY6 hI
    go_wp2_with (fail)
    go_at_call 9
    refine kre'.out.mono ?_
    rintro e W7 ⟨rfl, hb7⟩
    have hbw7 := bel_set hbw6'.out hb7
    cases R with
    | false =>
     have ⟨hb7', hbw7'⟩ := hyd2 hb7 hbw7
     clear hbw7 hb7
     go_wp2
     go_ret
     exact ⟨rfl, hbw7'.out⟩
    | true =>
     obtain ⟨b1, b2⟩ := hbest'.out tn (tryL rn sh) (by rw [hrn'.out]; exact htl) (by rw [tryL_length, hsl'.out]; omega) (by rw [tryL_length, hsl'.out]; omega) (by rw [hrn'.out]; exact tryL_mem q4) hR'.out
     rw [tryL_length, hsl'.out, hln'.out] at b1 b2
     have kX7 := blk hb7 kX6'.out
     have kY7 := blk hb7 kY6'.out
     clear y0 y1 y2 y3 y4 y5 p0 p1 p2 p3 p4 p5
     obtain ⟨-, -, -, -, -, y5⟩ := pc6 kY7
     obtain ⟨-, -, -, -, -, p5⟩ := pc6 kX7
     have c1 : ¬ (sl : Int) < (ln : Int) := by omega
     have c2 : ¬ sl < ln := by omega
     have c3 : decide ((sl : Int) < (ln : Int)) = false := decide_eq_false c1
     have c4 : decide (sl < ln) = false := decide_eq_false c2
     by_cases hg9 : ln < sl
     ·have g1 : (ln : Int) < (sl : Int) := by omega
      have g3 : decide ((ln : Int) < (sl : Int)) = true := decide_eq_true g1
      have g4 : decide (ln < sl) = true := decide_eq_true hg9
      have ⟨hb7', hbw7', b1', b2', kX7', kY7'⟩ := hyd6 hb7 hbw7 b1 b2 kX7 kY7
      clear kY7 kX7 b2 b1 hbw7 hb7
      go_wp2
      go_ret
      exact ⟨rfl, hbw7'.out⟩
     ·have e1 : by1 ≤ tn := Nat.le_trans hby'.out (b2 (by omega))
      have g1 : ¬ (ln : Int) < (sl : Int) := by omega
      have g3 : decide ((ln : Int) < (sl : Int)) = false := decide_eq_false g1
      have g4 : decide (ln < sl) = false := decide_eq_false hg9
      have e2 : (by1 : Int) ≤ (tn : Int) := by omega
      have e3 : decide ((by1 : Int) ≤ (tn : Int)) = true := decide_eq_true e2
      have e4 : decide (by1 ≤ tn) = true := decide_eq_true e1
      have ⟨hb7', hbw7', b1', b2', kX7', kY7'⟩ := hyd6 hb7 hbw7 b1 b2 kX7 kY7
      clear kY7 kX7 b2 b1 hbw7 hb7
      go_wp2
      go_ret
      exact ⟨rfl, hbw7'.out⟩
theorem l9_draws (a0 : Pic) (x0 vs : Value) (wi st tu : Nat) (sh : List Nat) (w : World) (w0 : IsPic w x0 a0 ∧ a0.Fit) (hwi : wi ≤ 255) (hst0 : st ≤ 65535) (htu : tu ≤ 255) (hvs : Bytes9 w vs sh) (h8 : ∀ b ∈ sh, b ≤ 255) :
  Calls Tryz.prog 3 #[x0, .int .u8 (wi : Int), .int .u16 (st : Int), .int .u8 (tu : Int), vs] w (DwPost w) := by
 obtain ⟨hp, hf⟩ := w0
 have hp9 := hp
 obtain ⟨vh, vr, rfl, hh, hr⟩ := hp
 obtain ⟨HA, hc, rfl, -⟩ := hh.slice
 obtain ⟨RA, rc, rfl, hrl⟩ := hr.slice
 unfold maxLen at hrl
 obtain ⟨SA, sc, rfl, hslc, hscm, -⟩ := id hvs
 unfold maxLen at hscm
 obtain ⟨sl, hsl⟩ : ∃ n, sh.length = n := ⟨_, rfl⟩
 rw [hsl] at hvs hslc ⊢
 have kal := fun W => pf_l9_alive W
 have kgr := fun W h => pf_r9_Great _ a0 W (hp9.le (W := W) h) hf
 obtain ⟨W1, hW1, hb1, k1⟩ := newb w (.cells #[.slice HA a0.hs.length hc, .int .i64 a0.tl, .int .i64 a0.th, .int .i64 a0.al, .int .i64 a0.ah, .slice RA a0.rds.length rc] 25)
 have ⟨hp9', hf', hh', hr', hb1', k1', kal', kgr'⟩ := hyd8 hp9 hf hh hr hb1 k1 kal kgr
 have ⟨hvs', hsl', h8'⟩ := hyd3 hvs hsl h8
 clear h8 hsl hvs kgr kal k1 hb1 hr hh hf hp9
 go_enter Tryz.func3, Tryz.ntmps3
 go_wp2_with (fail)
 clear hW1
 go_at_call 4
 refine (kal'.out W1).mono ?_
 rintro e W2 ⟨rfl, hb2⟩
 have hbw2 := bel_set hb1'.out hb2
 have k2 := blk hb2 k1'.out
 obtain ⟨c0, c1, c2, c3, c4, c5⟩ := pc6 k2
 have ⟨hb2', hbw2', k2'⟩ := hyd3 hb2 hbw2 k2
 clear k2 hbw2 hb2
 go_wp2_with (fail)
 go_at_call 5
 refine (kgr'.out W2 hbw2'.out).mono ?_
 rintro e W3 ⟨b, rfl, hb3, hgr⟩
 have hbw3 := bel_set hbw2'.out hb3
 have k3 := blk hb3 k2'.out
 clear c0 c1 c2 c3 c4 c5
 obtain ⟨c0, c1, c2, c3, c4, c5⟩ := pc6 k3
 have ⟨hb3', hbw3', k3', hgr'⟩ := hyd4 hb3 hbw3 k3 hgr
 clear hgr k3 hbw3 hb3
 by_cases hbig : b = true ∨ 12 < sl
 ·have hcase : b = true ∨ (b = false ∧ (12 : Int) < (sl : Int)) := by
   cases b
   ·right
    rcases hbig with h | h
    ·cases h
    ·exact ⟨rfl, by omega⟩
   ·left; rfl
  clear hbig
  rcases hcase with rfl | ⟨rfl, h⟩
  all_goals
   go_wp2
   go_ret
   exact ⟨rfl, hbw3'.out⟩
 have hbf : b = false := by cases b <;> simp_all
 subst hbf
 have hsl12 : sl ≤ 12 := by omega
 have i1 : ¬ (12 : Int) < (sl : Int) := by omega
 clear hbig
 obtain ⟨g6, g70, gl⟩ := hgr'.out rfl
 have hst : a0.steps ≤ 24 := by
  unfold Pic.steps
  rw [List.getD_eq_getElem?_getD]
  cases e : a0.hs[0]? with
  | none => exact Nat.zero_le _
  | some h => exact (gl h (List.mem_of_getElem? e)).1
 clear gl hgr'
 have kfi := pf_rd_Find _ a0 W3 (hp9'.out.le hbw3'.out) hf'.out hst
 obtain ⟨E, hE⟩ : ∃ E, findE a0 = E := ⟨_, rfl⟩
 rw [hE] at kfi
 have ⟨kfi', hE'⟩ := hyd2 kfi hE
 clear hE kfi
 go_wp2_with (fail)
 go_at_call 6
 refine kfi'.out.mono ?_
 rintro e W5 ⟨vf, rfl, hb5, hfv⟩
 have hbw5 := bel_set hbw3'.out hb5
 have k5 := blk hb5 k3'.out
 clear c0 c1 c2 c3 c4 c5
 obtain ⟨c0, c1, c2, c3, c4, c5⟩ := pc6 k5
 by_cases h0 : ¬ E = 0
 ·have h0b : (E != 0) = true := by simpa using h0
  have ⟨hfv', hb5', hbw5', k5', h0'⟩ := hyd5 hfv hb5 hbw5 k5 h0
  clear h0 k5 hbw5 hb5 hfv
  go_wp2
  go_ret
  exact ⟨rfl, hbw5'.out⟩
 obtain rfl : E = 0 := Decidable.not_not.1 h0
 clear h0
 have hB := find_ok hE'.out
 have hok := picB_iff.1 hB
 have hLf : findL a0 = foundL a0 := by unfold findL; rw [hE'.out, if_pos rfl]
 have hfc := find_cases hB
 rw [hE'.out] at hfc
 obtain ⟨hn0, hn4⟩ : 0 < (foundL a0).length ∧ (foundL a0).length ≤ 400 := by
  rcases hfc with h | ⟨⟨-, h⟩ | ⟨h, -⟩, -, h4⟩
  ·cases h
  ·exact ⟨h, h4⟩
  ·cases h
 clear hfc
 rw [hLf] at hfv
 obtain ⟨L, hL⟩ : ∃ L, foundL a0 = L := ⟨_, rfl⟩
 rw [hL] at hfv hn0 hn4
 obtain ⟨n, hn⟩ : ∃ n, L.length = n := ⟨_, rfl⟩
 rw [hn] at hn0 hn4
 obtain ⟨j, hj⟩ : ∃ j, wi % n = j := ⟨_, rfl⟩
 have hjl : j < n := by rw [← hj]; exact Nat.mod_lt _ hn0
 have hjL : j < L.length := by omega
 obtain ⟨A, c, hv9, -⟩ := hfv.slice
 rw [hn] at hv9
 subst hv9
 obtain ⟨gb, go, gz, heq, hgb, q0, q1, q2, q3, q4⟩ := FndL.cells hfv hjL
 rw [hn] at heq
 injection heq with e1 e2 e3
 subst e1 e3
 clear e2
 obtain ⟨f, hfj⟩ : ∃ f, L[j] = f := ⟨_, rfl⟩
 have hmem : f ∈ foundL a0 := by rw [hL, ← hfj]; exact List.getElem_mem hjL
 rw [hfj] at q0 q1 q2 q3 q4
 obtain ⟨m1, m2, m3, m4, m5⟩ := draw_range hmem
 obtain ⟨fh, ft, fa, lo, hi⟩ := f
 dsimp only at q0 q1 q2 q3 q4 m1 m2 m3 m4 m5
 obtain ⟨hd, rfl⟩ : ∃ h : Nat, fh = h := ⟨fh.toNat, by omega⟩
 have x1 : (wi : Int).tmod (n : Int) = (j : Int) := by rw [← hj]; rfl
 have y1 : (wi : Int) % (n : Int) = (j : Int) := by rw [← hj]; rfl
 have r1 : ¬ (n : Int) = 0 := by omega
 have r2 : ¬ n = 0 := by omega
 have r3 : (0 : Int) < (n : Int) := by omega
 have s1 : IntKind.i64.wrap (wi : Int) = (wi : Int) := IntWalk.i64_in _ (by omega)
 have s2 : (0 : Int) ≤ (wi : Int) := by omega
 have j1 : (j : Int) < (n : Int) := by omega
 have j2 : (0 : Int) ≤ (j : Int) := by omega
 obtain ⟨W6, hW6, hb6, k6⟩ := newb W5 (.cells #[.int .i64 (hd : Int), .int .i64 ft, .int .i64 fa, .int .i64 lo, .int .i64 hi] 35)
 have hbw6 := bel_set hbw5 hb6
 have kp6 := blk hb6 k5
 clear c0 c1 c2 c3 c4 c5
 obtain ⟨c0, c1, c2, c3, c4, c5⟩ := pc6 kp6
 obtain ⟨d0, d1, d2, d3, d4⟩ := pc5 k6
 have l1 : ¬ (hd : Int) < 0 := by omega
 have l2 : ¬ (a0.hs.length : Int) ≤ (hd : Int) := by omega
 have l2n : ¬ a0.hs.length ≤ hd := by omega
 have l3 : ¬ hi < lo := by omega
 have hhl : hd < a0.hs.length := by omega
 clear m2
 have ⟨hB', hok', hLf', hL', hn', hfv', hb5', hbw5'⟩ := hyd8 hB hok hLf hL hn hfv hb5 hbw5
 have ⟨k5', hj', hgb', hfj', hmem', hb6', k6', hbw6'⟩ := hyd8 k5 hj hgb hfj hmem hb6 k6 hbw6
 have kp6' := hyd1 kp6
 clear kp6 hbw6 k6 hb6 hmem hfj hgb hj k5 hbw5 hb5 hfv hn hL hLf hok hB
 go_upto_region 10 with (fail)
 clear hW6 q0 q1 q2 q3 q4 x1 y1 r1 r2 r3 s1 s2 j1 j2
 obtain ⟨dd, hdd⟩ : ∃ d : Nat, hi - lo = d := ⟨(hi - lo).toNat, by omega⟩
 obtain ⟨rr, hrr⟩ : ∃ r, st % (dd + 1) = r := ⟨_, rfl⟩
 have hrl2 : rr < dd + 1 := by rw [← hrr]; exact Nat.mod_lt _ (by omega)
 have x1 : (st : Int).tmod ((dd : Int) + 1) = (rr : Int) := by rw [← hrr]; rfl
 have y1 : (st : Int) % ((dd : Int) + 1) = (rr : Int) := by rw [← hrr]; rfl
 have r1 : ¬ ((dd : Int) + 1) = 0 := by omega
 have r3 : (0 : Int) < (dd : Int) + 1 := by omega
 have s1 : IntKind.i64.wrap (st : Int) = (st : Int) := IntWalk.i64_in _ (by omega)
 have s2 : (0 : Int) ≤ (st : Int) := by omega
 have s4 : IntKind.i64.wrap (hi - lo) = (dd : Int) := by rw [hdd]; exact IntWalk.i64_in _ (by omega)
 have s5 : IntKind.i64.wrap ((dd : Int) + 1) = (dd : Int) + 1 := IntWalk.i64_in _ (by omega)
 obtain ⟨s, hs⟩ : ∃ s, lo + (rr : Int) = s := ⟨_, rfl⟩
 have s6 : IntKind.i64.wrap (lo + (rr : Int)) = s := by rw [hs]; exact IntWalk.i64_in _ (by omega)
 have hs1 : lo ≤ s ∧ s ≤ hi := by omega
 have ⟨hdd', hrr', hrl2', hs'⟩ := hyd4 hdd hrr hrl2 hs
 clear hs hrl2 hrr hdd
 go_wp2_with (fail)
 go_quiet (fail)
 have hb67 := below_drewN' (Below.refl W6.heap.size W6) nq
 generalize W6.drewN nq = W7 at hb67 ⊢
 have hbw7 := bel_set hbw6'.out hb67
 have k7 := blk hb67 k6'.out
 have kp7 := blk hb67 kp6'.out
 clear c0 c1 c2 c3 c4 c5 d0 d1 d2 d3 d4 x1 y1 r1 r3 s1 s2 s4 s5 s6
 obtain ⟨c0, c1, c2, c3, c4, c5⟩ := pc6 kp7
 obtain ⟨d0, d1, d2, d3, d4⟩ := pc5 k7
 have hin : DrawIn a0 ⟨(hd : Int), ft, fa, lo, hi⟩ s := ⟨hok'.out, hmem'.out, hs1.1, hs1.2⟩
 obtain ⟨first, l, a1, a2, a3, a4, a5, a6, a7, a8⟩ := draw_simple hin
 have hg := hin.get
 obtain ⟨H, hH⟩ : ∃ H, a0.hs[hd] = H := ⟨_, rfl⟩
 have hHd : drawH a0 ⟨(hd : Int), ft, fa, lo, hi⟩ = H := by rw [← hH]; exact drawH_at hhl
 obtain ⟨rn, hrn⟩ : ∃ n, a0.steps = n := ⟨_, rfl⟩
 obtain ⟨rm, hrm⟩ : ∃ n, H.rub.length = n := ⟨_, rfl⟩
 obtain ⟨ln, hln⟩ : ∃ n, l.length = n := ⟨_, rfl⟩
 have hHl : H.ros.length = rn := by rw [← hHd, hg.len]; exact hrn
 have hHo : rosOk H.ros = true := by rw [← hHd]; exact hg.ros
 have hp7 := hp9'.out.le hbw7
 have hXn : (drawX a0 ⟨(hd : Int), ft, fa, lo, hi⟩ s (first : Int) l).ros.length = rn := by show (movedL _ _).length = _; rw [movedL_length, hg.len]; exact hrn
 have hXe : (drawX a0 ⟨(hd : Int), ft, fa, lo, hi⟩ s (first : Int) l).ros = movedL H.ros (first : Int) := by show movedL _ _ = _; rw [hHd]
 have hXr : (drawX a0 ⟨(hd : Int), ft, fa, lo, hi⟩ s (first : Int) l).rub = H.rub := by show (drawH _ _).rub = _; rw [hHd]
 have hff : (⟨(hd : Int), ft, fa, lo, hi⟩ : Fnd).Fit := by
  have b1 := hg.t
  have b2 := hg.a
  have b3 := hok'.out.tl
  have b4 := hok'.out.th
  have b5 := hok'.out.al
  have b6 := hok'.out.ah
  have b7 := hok'.out.heads
  dsimp only at b1 b2
  unfold Fnd.Fit fit64
  dsimp only
  omega
 have ksm : Calls Tryz.prog 7 #[.agg #[.slice HA a0.hs.length hc, .int .i64 a0.tl, .int .i64 a0.th, .int .i64 a0.al, .int .i64 a0.ah, .slice RA a0.rds.length rc], .agg #[.int .i64 (hd : Int), .int .i64 ft, .int .i64 fa, .int .i64 lo, .int .i64 hi], .int .i64 s] W7 fun e w' =>
   ∃ X0 z0 X1 z1 X5 z5, e = .returned (.tuple #[.agg #[.slice X0 rn z0, .slice X1 rm z1, .int .i64 s, .int .i64 ft, .int .i64 fa, .slice X5 ln z5], .int .i64 0]) ∧ Below W7.heap.size W7 w' ∧ Ints w' (.slice X0 rn z0) (movedL H.ros (first : Int)) ∧ Ints w' (.slice X1 rm z1) H.rub ∧ Ints w' (.slice X5 ln z5) l := by
  have h := pf_rd_Simplest _ a0 ⟨(hd : Int), ft, fa, lo, hi⟩ s W7 hp7 hf'.out hff (by unfold fit64; omega)
  rw [a1, a2] at h
  refine h.mono ?_
  rintro e w' ⟨v', rfl, hb, v0, v1, v5, rfl, i0, i1, i5⟩
  obtain ⟨X0, y0, rfl, -⟩ := id i0
  obtain ⟨X1, y1, rfl⟩ := slice_formR i1
  obtain ⟨X5, y5, rfl, -⟩ := id i5
  refine ⟨X0, y0, X1, y1, X5, y5, ?_, hb, ?_, ?_, ?_⟩
  ·rw [hXn, hXr, hrm]
   show Ending.returned (.tuple #[.agg #[.slice X0 rn y0, .slice X1 rm y1, .int .i64 s, .int .i64 ft, .int .i64 fa, .slice X5 l.length y5], .int .i64 0]) = _
   rw [hln]
  ·rw [hXn, hXe] at i0; exact i0
  ·have h9 := own_ints i1; rw [hXr, hrm] at h9; exact h9
  ·have h9 : Ints w' (.slice X5 l.length y5) l := i5
   rw [hln] at h9; exact h9
 obtain ⟨bh, oh, ch, vr9, vb9, heq, hbl, -⟩ := HeadsL.at (hh'.out.le hbw7) hhl
 injection heq with e1 e2 e3
 subst e1 e3
 clear e2
 have ⟨hb67', hbw7', k7', kp7', hin', a1', a2', a3'⟩ := hyd8 hb67 hbw7 k7 kp7 hin a1 a2 a3
 have ⟨a4', a5', a6', a7', a8', hg', hH', hHd'⟩ := hyd8 a4 a5 a6 a7 a8 hg hH hHd
 have ⟨hrn', hrm', hln', hHl', hHo', hp7', hXn', hXe'⟩ := hyd8 hrn hrm hln hHl hHo hp7 hXn hXe
 have ⟨hXr', hff', ksm', hbl'⟩ := hyd4 hXr hff ksm hbl
 clear hbl ksm hff hXr hXe hXn hp7 hHo hHl hln hrm hrn hHd hH hg a8 a7 a6 a5 a4 a3 a2 a1 hin kp7 k7 hbw7 hb67
 go_wp2_with (fail)
 go_at_call 7
 refine ksm'.out.mono ?_
 rintro e W8 ⟨X0, z0, X1, z1, X5, z5, rfl, hb8, i0, i1, i5⟩
 obtain ⟨W9, hW9, hb9, k9⟩ := newb W8 (.cells #[.slice X0 rn z0, .slice X1 rm z1, .int .i64 s, .int .i64 ft, .int .i64 fa, .slice X5 ln z5] 38)
 have hb79 := bel_set hb8 hb9
 have hbw9 := bel_set hbw7'.out hb79
 have kf9 := blk hb79 k7'.out
 have kp9 := blk hb79 kp7'.out
 have i09 := i0.below hb9
 have i19 := i1.below hb9
 have i59 := i5.below hb9
 have hxp : IsProg W9 (.agg #[.slice X0 rn z0, .slice X1 rm z1, .int .i64 s, .int .i64 ft, .int .i64 fa, .slice X5 ln z5]) (drawX a0 ⟨(hd : Int), ft, fa, lo, hi⟩ s (first : Int) l) := ⟨_, _, _, rfl, by rw [hXe'.out]; exact i09, by rw [hXr'.out]; exact i19, i59⟩
 have kck := pf_pat_Check _ _ W9 hxp 0 a6'.out
 clear c0 c1 c2 c3 c4 c5 d0 d1 d2 d3 d4
 obtain ⟨c0, c1, c2, c3, c4, c5⟩ := pc6 k9
 have ⟨hb8', i0', i1', i5', hb9', k9', hb79', hbw9'⟩ := hyd8 hb8 i0 i1 i5 hb9 k9 hb79 hbw9
 have ⟨kf9', kp9', i09', i19', i59', hxp', kck'⟩ := hyd7 kf9 kp9 i09 i19 i59 hxp kck
 clear kck hxp i59 i19 i09 kp9 kf9 hbw9 hb79 k9 hb9 i5 i1 i0 hb8
 go_wp2_with (fail)
 clear hW9
 go_at_call 8
 refine kck'.out.mono ?_
 rintro e W10 ⟨rfl, hb10⟩
 have hbw10 := bel_set hbw9'.out hb10
 have k10 := blk hb10 k9'.out
 have kf10 := blk hb10 kf9'.out
 have kp10 := blk hb10 kp9'.out
 clear c0 c1 c2 c3 c4 c5
 obtain ⟨c0, c1, c2, c3, c4, c5⟩ := pc6 k10
 obtain ⟨d0, d1, d2, d3, d4⟩ := pc5 kf10
 obtain ⟨y0, y1, y2, y3, y4, y5⟩ := pc6 kp10
 have kre := pf_l9_reads _ _ _ a0 W10 (hxp'.out.below hb10) (hp9'.out.le hbw10) (fun r hr => (hok'.out.rd r hr).2.1.1)
 rw [a7'.out] at kre
 have ⟨hb10', hbw10', k10', kf10', kp10', kre'⟩ := hyd6 hb10 hbw10 k10 kf10 kp10 kre
 clear kre kp10 kf10 k10 hbw10 hb10
 go_wp2_with (fail)
 go_at_call 9
 refine kre'.out.mono ?_
 rintro e W11 ⟨rfl, hb11⟩
 have hbw11 := bel_set hbw10'.out hb11
 have k11 := blk hb11 k10'.out
 have kf11 := blk hb11 kf10'.out
 have kp11 := blk hb11 kp10'.out
 obtain ⟨b9, o9, c9, vr9, vb9, heq, hbl, h0c, h1c, ir, ib⟩ := HeadsL.at (hh'.out.le hbw11) hhl
 injection heq with e1 e2 e3
 injection e1 with e1
 injection e1 with e1 e1b
 subst e1 e1b e3
 clear e2
 rw [hH'.out] at ir ib
 obtain ⟨R0, r0, rfl, -⟩ := id ir
 obtain ⟨R1, r1, rfl, -⟩ := id ib
 rw [hHl'.out] at ir h0c
 rw [hrm'.out] at ib h1c
 obtain ⟨W12, hW12, hb12, k12⟩ := newb W11 (.cells #[.slice R0 rn r0, .slice R1 rm r1] 44)
 have hbw12 := bel_set hbw11 hb12
 have kx12 := blk hb12 k11
 have kp12 := blk hb12 kp11
 have ir12 := ir.below hb12
 have ib12 := ib.below hb12
 have hb912 := bel_set hb10'.out (bel_set hb11 hb12)
 have i012 := i09'.out.below hb912
 have i112 := i19'.out.below hb912
 have hXo : rosOk (movedL H.ros (first : Int)) = true := moved_ros hHo'.out _
 have kma := pf_ros_MatchOk _ _ H.ros (movedL H.ros (first : Int)) first W12 ir12 i012 hHo'.out hXo (by rw [hHl'.out, ← hrn'.out]; exact a3'.out) rfl
 clear c0 c1 c2 c3 c4 c5 d0 d1 d2 d3 d4 y0 y1 y2 y3 y4 y5
 obtain ⟨d0, d1, d2, d3, d4⟩ := pc5 kf11
 obtain ⟨y0, y1, y2, y3, y4, y5⟩ := pc6 kp11
 obtain ⟨u0, u1⟩ := pc2 k12
 obtain ⟨c0, c1, c2, c3, c4, c5⟩ := pc6 kx12
 have l4 : (hd : Int) < (a0.hs.length : Int) := by omega
 have l5 : (0 : Int) ≤ (hd : Int) := by omega
 have ⟨hb11', hbw11', k11', kf11', kp11', hbl', ir', ib'⟩ := hyd8 hb11 hbw11 k11 kf11 kp11 hbl ir ib
 have ⟨hb12', k12', hbw12', kx12', kp12', ir12', ib12', hb912'⟩ := hyd8 hb12 k12 hbw12 kx12 kp12 ir12 ib12 hb912
 have ⟨i012', i112', hXo', kma'⟩ := hyd4 i012 i112 hXo kma
 clear kma hXo i112 i012 hb912 ib12 ir12 kp12 kx12 hbw12 k12 hb12 ib ir hbl kp11 kf11 k11 hbw11 hb11
 go_wp2_with (fail)
 clear hW12 h0c h1c
 go_at_call 10
 refine kma'.out.mono ?_
 rintro e W13 ⟨by1, rfl, hb13, hby⟩
 have hbw13 := bel_set hbw12'.out hb13
 have kx13 := blk hb13 kx12'.out
 have kp13 := blk hb13 kp12'.out
 have kh13 := blk hb13 k12'.out
 have ir13 := ir12'.out.below hb13
 have ib13 := ib12'.out.below hb13
 have i113 := i112'.out.below hb13
 clear c0 c1 c2 c3 c4 c5 d0 d1 d2 d3 d4 y0 y1 y2 y3 y4 y5 u0 u1
 obtain ⟨u0, u1⟩ := pc2 kh13
 obtain ⟨c0, c1, c2, c3, c4, c5⟩ := pc6 kx13
 have ksa := pf_l9_same _ _ H.rub H.rub W13 ib13 i113
 rw [show (H.rub == H.rub) = true from beq_self_eq_true _] at ksa
 have ⟨hb13', hby', hbw13', kx13', kp13', kh13', ir13', ib13'⟩ := hyd8 hb13 hby hbw13 kx13 kp13 kh13 ir13 ib13
 have ⟨i113', ksa'⟩ := hyd2 i113 ksa
 clear ksa i113 ib13 ir13 kh13 kp13 kx13 hbw13 hby hb13
 go_wp2_with (fail)
 go_at_call 11
 refine ksa'.out.mono ?_
 rintro e W14 ⟨rfl, nq, rfl⟩
 have hb14 := below_drewN' (Below.refl W13.heap.size W13) nq
 generalize W13.drewN nq = W14 at hb14 ⊢
 have hbw14 := bel_set hbw13'.out hb14
 have kx14 := blk hb14 kx13'.out
 have kp14 := blk hb14 kp13'.out
 have kh14 := blk hb14 kh13'.out
 clear c0 c1 c2 c3 c4 c5 u0 u1
 have ⟨hb14', hbw14', kx14', kp14', kh14'⟩ := hyd5 hb14 hbw14 kx14 kp14 kh14
 clear kh14 kp14 kx14 hbw14 hb14
 go_upto_region 18 with (fail)
 exact draw_18 a0 w W14 SA _ RA hc rc sl sc w.heap.size W8.heap.size W11.heap.size by1 tu first rn rm ln X0 X1 X5 R0 R1 z0 z1 z5 r0 r1 rm s ⟨(hd : Int), ft, fa, lo, hi⟩ l sh H hin'.out hHd'.out hrn'.out hrm'.out hln'.out (by rw [← hln'.out]; exact a4'.out) (by rw [← hln'.out]; exact a5'.out) hby'.out htu hsl'.out hsl12 h8'.out a8'.out (hvs'.out.le hbw14'.out) (hp9'.out.le hbw14'.out) kp14'.out kx14'.out kh14'.out (i113'.out.below hb14'.out) (ir13'.out.below hb14'.out) hbw14'.out _ (frame_mkN _ _ (by kernel_rfl)) _ (by assumption)
theorem law_ReadDraws (a0 : Pic) (x0 : Value) (a1 a2 a3 : Int) (a4 : List Int) (x4 : Value) (w : World) (w0 : IsPic w x0 a0 ∧ a0.Fit) (w1 : (Lit.int .u8 a1).wf = true) (w2 : (Lit.int .u16 a2).wf = true) (w3 : (Lit.int .u8 a3).wf = true) (w4 : Arr (Value.int .u8) w x4 a4 ∧ ∀ n ∈ a4, (Lit.int .u8 n).wf = true) :
  Calls Tryz.prog 3 #[x0, .int .u8 a1, .int .u16 a2, .int .u8 a3, x4] w fun e w' => e = .returned (.bool true) ∧ Below w.heap.size w w' := by
 have h1' : IntKind.u8.min ≤ a1 ∧ a1 ≤ IntKind.u8.max := by simpa [Lit.wf] using w1
 have h2' : IntKind.u16.min ≤ a2 ∧ a2 ≤ IntKind.u16.max := by simpa [Lit.wf] using w2
 have h3' : IntKind.u8.min ≤ a3 ∧ a3 ≤ IntKind.u8.max := by simpa [Lit.wf] using w3
 have h1 : 0 ≤ a1 ∧ a1 ≤ 255 := h1'
 have h2 : 0 ≤ a2 ∧ a2 ≤ 65535 := h2'
 have h3 : 0 ≤ a3 ∧ a3 ≤ 255 := h3'
 obtain ⟨n1, rfl⟩ : ∃ n : Nat, a1 = n := ⟨a1.toNat, by omega⟩
 obtain ⟨n2, rfl⟩ : ∃ n : Nat, a2 = n := ⟨a2.toNat, by omega⟩
 obtain ⟨n3, rfl⟩ : ∃ n : Nat, a3 = n := ⟨a3.toNat, by omega⟩
 obtain ⟨b1, b2⟩ := bytes_of9 w4.1 w4.2
 exact l9_draws a0 x0 x4 n1 n2 n3 (a4.map Int.toNat) w w0 (by omega) (by omega) (by omega) b1 b2
end Go.Proofs.YtphdalgaemefoaaGreat
