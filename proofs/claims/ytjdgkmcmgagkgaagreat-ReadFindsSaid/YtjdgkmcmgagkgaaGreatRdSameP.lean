/- The reference's SameReadings; the law's same. The law's same (two lists). The reference's SamePicture. The reference's SameFound. -/
import Derived.Test.YtjdgkmcmgagkgaaGreatRdFitsW
namespace Go.Proofs.YtjdgkmcmgagkgaaGreat
set_option maxRecDepth 100000
set_option maxHeartbeats 4000000
open Go.RowKit
set_option linter.unusedVariables false
set_option linter.unusedSimpArgs false
def rdEq (a b c d a' b' c' d' : Int) : Bool := decide ((⟨a, b, c, d⟩ : Rd) = ⟨a', b', c', d'⟩)
theorem rdEq_eq (a b c d a' b' c' d' : Int) : rdEq a b c d a' b' c' d' = (a == a' && (b == b' && (c == c' && d == d'))) := by
 unfold rdEq
 rw [Bool.eq_iff_iff]
 simp
theorem run_eqIn_rd (a b c d a' b' c' d' : Int) (w : World) : (Op.equalIn 10000 77 (.agg #[.int .i64 a, .int .i64 b, .int .i64 c, .int .i64 d]) (.agg #[.int .i64 a', .int .i64 b', .int .i64 c', .int .i64 d'])).run Tryz.prog w = .ok (rdEq a b c d a' b' c' d') w := by
 rw [run_equalIn_struct w 9999 77 _ _ (by kernel_rfl) (by kernel_rfl), rdEq_eq]
 have hf : Tryz.prog.fieldsOf 77 = #[{ name := "Cut", type := 3, offset := 0, embedded := false, tag := "", pkgPath := "", byteOffset := 0 },
    { name := "Step", type := 3, offset := 1, embedded := false, tag := "", pkgPath := "", byteOffset := 8 },
    { name := "Low", type := 3, offset := 2, embedded := false, tag := "", pkgPath := "", byteOffset := 16 },
    { name := "High", type := 3, offset := 3, embedded := false, tag := "", pkgPath := "", byteOffset := 24 }] := by kernel_rfl
 rw [hf]
 cases h1 : (a == a') <;> cases h2 : (b == b') <;> cases h3 : (c == c') <;> cases h4 : (d == d') <;>
  simp [go_sem, h1, h2, h3, h4, Op.eqFields]
attribute [local go_sem ↓ high] run_eqIn_rd
theorem pf_r9_SameReadings (va vb : Value) (xs ys : List Rd) (w : World) (ha : RdsL w va xs) (hb : RdsL w vb ys) : Calls Tryz.prog 16 #[va, vb] w fun e w' => e = .returned (.bool (decide (xs = ys))) ∧ ∃ n, w' = w.drewN n := by
 obtain ⟨A, c, rfl, hcm⟩ := ha.slice
 obtain ⟨B, d, rfl, hdm⟩ := hb.slice
 unfold maxLen at hcm hdm
 by_cases hl : xs.length = ys.length
 ·have hl2 : xs.length ≤ ys.length := by omega
  have hl3 : ys.length ≤ xs.length := by omega
  have hl4 : (xs.length : Int) = (ys.length : Int) := by omega
  obtain ⟨yl, hyl⟩ : ∃ yl, ys.length = yl := ⟨_, rfl⟩
  obtain rfl : xs.length = yl := hl.trans hyl
  rw [hyl] at hl3 hl2 hdm ⊢
  clear hl4
  have ⟨ha', hb', hl', hyl'⟩ := hyd4 ha hb hl hyl
  clear hyl hl hb ha
  go_enter Tryz.func16, Tryz.ntmps16
  go_wp2
  go_loopw [5] (fun ix wr => ∃ j : Nat, j ≤ xs.length ∧ ix = .int .i64 j ∧ Hid (∃ n, wr = w.drewN n) ∧ Hid (∀ i (h1 : i < xs.length) (h2 : i < ys.length), i < j → xs[i] = ys[i])) (fun ix _ => xs.length - (intOf ix).toNat)
  case atStart => exact ⟨0, Nat.zero_le _, rfl, Lib.hid ⟨0, rfl⟩, Lib.hid fun i _ _ h => absurd h (Nat.not_lt_zero i)⟩
  case round =>
   obtain ⟨j, hj, rfl, hN, hI⟩ := hrel
   obtain ⟨n, hn⟩ := hN.out
   by_cases hlt : j < xs.length
   ·have hlt2 : j < ys.length := by rw [hyl'.out]; exact hlt
    obtain ⟨b, off, c2, heq, hb1, g0, g1, g2, g3⟩ := RdsL.cells ha'.out hlt
    injection heq with e1 e2 e3
    subst e1 e3
    clear e2
    obtain ⟨b2, off2, c2, heq, hb2, k0, k1, k2, k3⟩ := RdsL.cells hb'.out hlt2
    injection heq with e1 e2 e3
    subst e1 e3
    clear e2
    have hq : ∀ p, wr.cell? p = w.cell? p := fun p => by rw [hn]; simp
    rw [← hq] at g0 g1 g2 g3 k0 k1 k2 k3
    clear hq hb1 hb2
    obtain ⟨⟨x0, x1, x2, x3⟩, hx⟩ : ∃ y, xs[j] = y := ⟨_, rfl⟩
    obtain ⟨⟨y0, y1, y2, y3⟩, hy⟩ : ∃ y, ys[j] = y := ⟨_, rfl⟩
    rw [hx] at g0 g1 g2 g3
    rw [hy] at k0 k1 k2 k3
    simp only at g0 g1 g2 g3 k0 k1 k2 k3
    have j1 : (j : Int) < (xs.length : Int) := by omega
    have j2 : (0 : Int) ≤ (j : Int) := by omega
    obtain ⟨F, hF⟩ : ∃ F, rdEq x0 x1 x2 x3 y0 y1 y2 y3 = F := ⟨_, rfl⟩
    have hrun := fun (W : World) => (run_eqIn_rd x0 x1 x2 x3 y0 y1 y2 y3 W).trans (by rw [hF])
    cases F with
    | true =>
     have hxy : (⟨x0, x1, x2, x3⟩ : Rd) = ⟨y0, y1, y2, y3⟩ := of_decide_eq_true hF
     have ⟨hx', hy', hn', hxy'⟩ := hyd4 hx hy hn hxy
     clear hxy hn hy hx
     go_wp2
     go_quiet (fail)
     go_wp2
     go_roundw
     case rel => exact ⟨j + 1, by omega, by go_num, Lib.hid ⟨n + nq, by rw [hn'.out]; exact World.drewN_drewN _ _ _⟩, Lib.hid fun i h1 h2 hij => by
      by_cases e : i = j
      ·subst e; rw [hx'.out, hy'.out]; exact hxy'.out
      ·exact hI.out i h1 h2 (by omega)⟩
     case measure => simp [intOf]; omega
    | false =>
     have hxy : decide (xs = ys) = false := decide_eq_false fun h => by
      subst h
      have h2 := hx.symm.trans hy
      have h3 := of_decide_eq_false hF
      exact h3 h2
     have ⟨hx', hy', hn', hxy'⟩ := hyd4 hx hy hn hxy
     clear hxy hn hy hx
     go_wp2
     go_quiet (fail)
     go_wp2
     go_ret
     exact ⟨by rw [hxy'.out]; rfl, ⟨_, by rw [hn'.out]; exact World.drewN_drewN _ _ _⟩⟩
   ·have hfin : decide (xs = ys) = true := decide_eq_true (List.ext_getElem hl'.out fun i h1 h2 => hI.out i h1 h2 (by omega))
    have ⟨hfin', hn'⟩ := hyd2 hfin hn
    clear hn hfin
    go_wp2
    go_ret
    exact ⟨by rw [hfin'.out]; rfl, n, hn'.out⟩
 ·have hne : decide (xs = ys) = false := decide_eq_false fun h => hl (by rw [h])
  have hli : ¬ (xs.length : Int) = (ys.length : Int) := by omega
  have hli2 : ¬ (ys.length : Int) = (xs.length : Int) := by omega
  obtain ⟨xl, hxl⟩ : ∃ xl, xs.length = xl := ⟨_, rfl⟩
  obtain ⟨yl, hyl⟩ : ∃ yl, ys.length = yl := ⟨_, rfl⟩
  rw [hxl] at hl hli hli2 hcm ⊢
  rw [hyl] at hl hli hli2 hdm ⊢
  have ⟨ha', hb', hne', hxl', hyl'⟩ := hyd5 ha hb hne hxl hyl
  clear hyl hxl hne hb ha
  go_enter Tryz.func16, Tryz.ntmps16
  go_wp2
  go_ret
  exact ⟨by rw [hne'.out]; rfl, 0, rfl⟩
end Go.Proofs.YtjdgkmcmgagkgaaGreat
namespace Go.Proofs.YtjdgkmcmgagkgaaGreat
set_option maxRecDepth 100000
set_option maxHeartbeats 4000000
open Go.RowKit
set_option linter.unusedVariables false
set_option linter.unusedSimpArgs false
theorem pf_l9_same (v v' : Value) (xs ys : List Int) (w : World) (hx : Ints w v xs) (hy : Ints w v' ys) :
  Calls Tryz.prog 23 #[v, v'] w fun e w' => e = .returned (.bool (xs == ys)) ∧ ∃ n, w' = w.drewN n := by
 have ⟨hx', hy'⟩ := hyd2 hx hy
 clear hy hx
 go_enter Tryz.func23, Tryz.ntmps23
 go_wp2_with (first | (go_at_call 39; ((with_reducible refine (pf_SameInts _ _ xs ys _ hx'.out hy'.out).mono ?_); rintro e w' ⟨rfl, n, rfl⟩)))
 go_ret
 exact ⟨rfl, n, rfl⟩
end Go.Proofs.YtjdgkmcmgagkgaaGreat
namespace Go.Proofs.YtjdgkmcmgagkgaaGreat
set_option maxRecDepth 100000
set_option maxHeartbeats 4000000
open Go.RowKit
set_option linter.unusedVariables false
set_option linter.unusedSimpArgs false
theorem pic_eq {p q : Pic} (h1 : p.hs = q.hs) (h2 : p.tl = q.tl) (h3 : p.th = q.th) (h4 : p.al = q.al) (h5 : p.ah = q.ah) (h6 : p.rds = q.rds) : p = q := by
 cases p; cases q; simp_all
theorem ints_drew {w : World} {v : Value} {L : List Int} (h : Ints w v L) (n : Nat) : Ints (w.drewN n) v L := h.below (below_drewN' (Below.refl _ _) n)
theorem pf_r9_SamePicture (va vb : Value) (p q : Pic) (w : World) (hp : IsPic w va p) (hq : IsPic w vb q) :
  Calls Tryz.prog 17 #[va, vb] w fun e w' => ∃ b, e = .returned (.bool b) ∧ (b = true ↔ p = q) ∧ Below w.heap.size w w' := by
 obtain ⟨ph, pt, pu, pa, pb, pr⟩ := p
 obtain ⟨qh, qt, qu, qa, qb, qr⟩ := q
 obtain ⟨vh, vr, rfl, hh, hr⟩ := hp
 obtain ⟨uh, ur, rfl, kh, kr⟩ := hq
 dsimp only at hh hr kh kr ⊢
 obtain ⟨HA, hc, rfl, hhl⟩ := hh.slice
 obtain ⟨RA, rc, rfl, hrl⟩ := hr.slice
 obtain ⟨HB, hd, rfl, khl⟩ := kh.slice
 obtain ⟨RB, rd, rfl, krl⟩ := kr.slice
 unfold maxLen at hhl hrl khl krl
 obtain ⟨pl, hpl⟩ : ∃ n, ph.length = n := ⟨_, rfl⟩
 obtain ⟨ql, hql⟩ : ∃ n, qh.length = n := ⟨_, rfl⟩
 rw [hpl] at hh hhl ⊢
 rw [hql] at kh khl ⊢
 obtain ⟨W0, hW0, hb0, k0⟩ := newb w (.cells #[.slice HA pl hc, .int .i64 pt, .int .i64 pu, .int .i64 pa, .int .i64 pb, .slice RA pr.length rc] 25)
 obtain ⟨W1, hW1, hb1, k1⟩ := newb W0 (.cells #[.slice HB ql hd, .int .i64 qt, .int .i64 qu, .int .i64 qa, .int .i64 qb, .slice RB qr.length rd] 25)
 have hbw1 := bel_set hb0 hb1
 obtain ⟨c0, c1, c2, c3, c4, c5⟩ := pc6 (blk hb1 k0)
 obtain ⟨d0, d1, d2, d3, d4, d5⟩ := pc6 k1
 have kread : Calls Tryz.prog 16 #[.slice RA pr.length rc, .slice RB qr.length rd] W1 fun e w' => e = .returned (.bool (decide (pr = qr))) ∧ Below W1.heap.size W1 w' := (pf_r9_SameReadings _ _ _ _ W1 (hr.le hbw1) (kr.le hbw1)).mono fun e w' ⟨h1, n, h2⟩ => ⟨h1, by rw [h2]; exact below_drewN' (Below.refl _ _) n⟩
 by_cases hl : pl = ql
 ·subst hl
  obtain ⟨F, hF⟩ : ∃ F, decide (pr = qr) = F := ⟨_, rfl⟩
  rw [hF] at kread
  have ⟨hpl', hql'⟩ := hyd2 hpl hql
  clear hql hpl
  cases F with
  | false =>
   have hne : ¬ (⟨ph, pt, pu, pa, pb, pr⟩ : Pic) = ⟨qh, qt, qu, qa, qb, qr⟩ := fun h => by injection h; exact of_decide_eq_false hF ‹_›
   have ⟨hh', hr', kh', kr', hb0', hb1', hbw1', k0'⟩ := hyd8 hh hr kh kr hb0 hb1 hbw1 k0
   have ⟨k1', kread', hne'⟩ := hyd3 k1 kread hne
   clear hne kread k1 k0 hbw1 hb1 hb0 kr kh hr hh
   go_enter Tryz.func17, Tryz.ntmps17
   go_wp2_with (fail)
   clear hW0 hW1
   go_at_call 16
   refine kread'.out.mono ?_
   rintro e W2 ⟨rfl, hb2⟩
   have hbw2 := bel_set hbw1'.out hb2
   obtain ⟨x0, x1, x2, x3, x4, x5⟩ := pc6 (blk hb2 (blk hb1'.out k0'.out))
   obtain ⟨y0, y1, y2, y3, y4, y5⟩ := pc6 (blk hb2 k1'.out)
   clear c0 c1 c2 c3 c4 c5 d0 d1 d2 d3 d4 d5
   have ⟨hb2', hbw2'⟩ := hyd2 hb2 hbw2
   clear hbw2 hb2
   go_wp2
   go_ret
   exact ⟨false, rfl, ⟨fun h => (by cases h), fun h => absurd h hne'.out⟩, hbw2'.out⟩
  | true =>
   have hF2 : pr = qr := of_decide_eq_true hF
   clear hF
   have hF2' := hyd1 hF2
   clear hF2
   by_cases h1 : pt = qt
   ·subst h1
    by_cases h2 : pu = qu
    ·subst h2
     by_cases h3 : pa = qa
     ·subst h3
      by_cases h4 : pb = qb
      ·subst h4
       have ⟨hh', hr', kh', kr', hb0', hb1', hbw1', k0'⟩ := hyd8 hh hr kh kr hb0 hb1 hbw1 k0
       have ⟨k1', kread'⟩ := hyd2 k1 kread
       clear kread k1 k0 hbw1 hb1 hb0 kr kh hr hh
       go_enter Tryz.func17, Tryz.ntmps17
       go_wp2_with (fail)
       clear hW0 hW1
       go_at_call 16
       refine kread'.out.mono ?_
       rintro e W2 ⟨rfl, hb2⟩
       have hbw2 := bel_set hbw1'.out hb2
       obtain ⟨x0, x1, x2, x3, x4, x5⟩ := pc6 (blk hb2 (blk hb1'.out k0'.out))
       obtain ⟨y0, y1, y2, y3, y4, y5⟩ := pc6 (blk hb2 k1'.out)
       clear c0 c1 c2 c3 c4 c5 d0 d1 d2 d3 d4 d5
       have ⟨hb2', hbw2'⟩ := hyd2 hb2 hbw2
       clear hbw2 hb2
       go_wp2
       go_loopw [5] (fun ix wr => ∃ j : Nat, j ≤ pl ∧ ix = .int .i64 j ∧ Hid (Below W2.heap.size W2 wr) ∧ Hid (∀ i (h1 : i < ph.length) (h2 : i < qh.length), i < j → ph[i] = qh[i])) (fun ix _ => pl - (intOf ix).toNat)
       case atStart => exact ⟨0, Nat.zero_le _, rfl, Lib.hid (Below.refl _ _), Lib.hid fun i _ _ h => absurd h (Nat.not_lt_zero i)⟩
       case round =>
        obtain ⟨j, hj, rfl, hN, hI⟩ := hrel
        have hbr := bel_set hbw2'.out hN.out
        clear x0 x1 x2 x3 x4 x5 y0 y1 y2 y3 y4 y5
        obtain ⟨x0, x1, x2, x3, x4, x5⟩ := pc6 (blk hN.out (blk hb2'.out (blk hb1'.out k0'.out)))
        obtain ⟨y0, y1, y2, y3, y4, y5⟩ := pc6 (blk hN.out (blk hb2'.out k1'.out))
        by_cases hlt : j < pl
        ·have hlp : j < ph.length := by have h := hpl'.out; omega
         have hlq : j < qh.length := by have h := hql'.out; omega
         obtain ⟨b, off, c2, v1, v2, heq, hb1, g0, g1, i0, i1⟩ := HeadsL.at (v := .slice HA pl hc) (hh'.out.le hbr) hlp
         injection heq with e1 e2 e3
         subst e1 e3
         clear e2 hb1
         obtain ⟨b2, off2, c2, u1, u2, heq, hb1, m0, m1, n0, n1⟩ := HeadsL.at (v := .slice HB pl hd) (kh'.out.le hbr) hlq
         injection heq with e1 e2 e3
         subst e1 e3
         clear e2 hb1
         obtain ⟨⟨r1, s1⟩, hx⟩ : ∃ y, ph[j] = y := ⟨_, rfl⟩
         obtain ⟨⟨r2, s2⟩, hy⟩ : ∃ y, qh[j] = y := ⟨_, rfl⟩
         rw [hx] at i0 i1
         rw [hy] at n0 n1
         have ks1 : ∀ n, Calls Tryz.prog 39 #[v1, u1] (wr.drewN n) fun e w' => e = .returned (.bool (r1 == r2)) ∧ ∃ k, w' = (wr.drewN n).drewN k := fun n => pf_SameInts _ _ _ _ _ (ints_drew i0 n) (ints_drew n0 n)
         have ks2 : ∀ n, Calls Tryz.prog 39 #[v2, u2] (wr.drewN n) fun e w' => e = .returned (.bool (s1 == s2)) ∧ ∃ k, w' = (wr.drewN n).drewN k := fun n => pf_SameInts _ _ _ _ _ (ints_drew i1 n) (ints_drew n1 n)
         obtain ⟨F, hF⟩ : ∃ F, (r1 == r2) = F := ⟨_, rfl⟩
         obtain ⟨G, hG⟩ : ∃ G, (s1 == s2) = G := ⟨_, rfl⟩
         rw [hF] at ks1
         rw [hG] at ks2
         obtain ⟨A1, a1, rfl, -⟩ := id i0
         obtain ⟨A2, a2, rfl, -⟩ := id i1
         obtain ⟨A3, a3, rfl, -⟩ := id n0
         obtain ⟨A4, a4, rfl, -⟩ := id n1
         have j1 : (j : Int) < (pl : Int) := by omega
         have j2 : (0 : Int) ≤ (j : Int) := by omega
         have ⟨hbr', ks1', ks2', i0', i1', n0', n1'⟩ := hyd7 hbr ks1 ks2 i0 i1 n0 n1
         clear n1 n0 i1 i0 ks2 ks1 hbr
         cases F with
         | false =>
          have hne : ¬ (⟨ph, pt, pu, pa, pb, pr⟩ : Pic) = ⟨qh, pt, pu, pa, pb, qr⟩ := fun h => by
           injection h with e1
           subst e1
           have h2 := hx.symm.trans hy
           injection h2 with e1 e2
           subst e1
           simp at hF
          have ⟨hne', hx', hy', hF', hG'⟩ := hyd5 hne hx hy hF hG
          clear hG hF hy hx hne
          go_wp2_with (fail)
          go_quiet ((go_at_call 39; first | (with_reducible exact Calls.quiet_of (ks1'.out _)) | (with_reducible exact Calls.quiet_of (ks2'.out _)) | exact Calls.quiet_of (ks1'.out _) | exact Calls.quiet_of (ks2'.out _)))
          go_wp2
          go_ret
          exact ⟨false, rfl, ⟨fun h => (by cases h), fun h => absurd h hne'.out⟩, below_drewN' hbr'.out _⟩
         | true =>
          cases G with
          | false =>
           have hne : ¬ (⟨ph, pt, pu, pa, pb, pr⟩ : Pic) = ⟨qh, pt, pu, pa, pb, qr⟩ := fun h => by
            injection h with e1
            subst e1
            have h2 := hx.symm.trans hy
            injection h2 with e1 e2
            subst e2
            simp at hG
           have ⟨hne', hx', hy', hF', hG'⟩ := hyd5 hne hx hy hF hG
           clear hG hF hy hx hne
           go_wp2_with (fail)
           go_quiet ((go_at_call 39; first | (with_reducible exact Calls.quiet_of (ks1'.out _)) | (with_reducible exact Calls.quiet_of (ks2'.out _)) | exact Calls.quiet_of (ks1'.out _) | exact Calls.quiet_of (ks2'.out _)))
           go_wp2
           go_ret
           exact ⟨false, rfl, ⟨fun h => (by cases h), fun h => absurd h hne'.out⟩, below_drewN' hbr'.out _⟩
          | true =>
           have hn9 : ∀ i (h1 : i < ph.length) (h2 : i < qh.length), i < j + 1 → ph[i] = qh[i] := fun i h1 h2 hij => by
            by_cases e : i = j
            ·subst e; rw [hx, hy, eq_of_beq hF, eq_of_beq hG]
            ·exact hI.out i h1 h2 (by omega)
           have ⟨hx', hy', hF', hG', hn9'⟩ := hyd5 hx hy hF hG hn9
           clear hn9 hG hF hy hx
           go_wp2_with (fail)
           go_quiet ((go_at_call 39; first | (with_reducible exact Calls.quiet_of (ks1'.out _)) | (with_reducible exact Calls.quiet_of (ks2'.out _)) | exact Calls.quiet_of (ks1'.out _) | exact Calls.quiet_of (ks2'.out _)))
           go_wp2
           go_roundw
           case rel => exact ⟨j + 1, by omega, by go_num, Lib.hid (below_drewN' hN.out _), hn9'⟩
           case measure => simp [intOf]; omega
        ·have hfin : (⟨ph, pt, pu, pa, pb, pr⟩ : Pic) = ⟨qh, pt, pu, pa, pb, qr⟩ := by
           have hs : ph = qh := List.ext_getElem (hpl'.out.trans hql'.out.symm) fun i h1 h2 => hI.out i h1 h2 (by have h := hpl'.out; omega)
           exact pic_eq hs rfl rfl rfl rfl hF2'.out
         have ⟨hfin', hbr'⟩ := hyd2 hfin hbr
         clear hbr hfin
         go_wp2
         go_ret
         exact ⟨true, rfl, ⟨fun _ => hfin'.out, fun _ => rfl⟩, hbr'.out⟩
      ·have hne : ¬ (⟨ph, pt, pu, pa, pb, pr⟩ : Pic) = ⟨qh, pt, pu, pa, qb, qr⟩ := fun h => by injection h; exact h4 ‹_›
       have ⟨hh', hr', kh', kr', hb0', hb1', hbw1', k0'⟩ := hyd8 hh hr kh kr hb0 hb1 hbw1 k0
       have ⟨k1', kread', hne'⟩ := hyd3 k1 kread hne
       clear hne kread k1 k0 hbw1 hb1 hb0 kr kh hr hh
       go_enter Tryz.func17, Tryz.ntmps17
       go_wp2_with (fail)
       clear hW0 hW1
       go_at_call 16
       refine kread'.out.mono ?_
       rintro e W2 ⟨rfl, hb2⟩
       have hbw2 := bel_set hbw1'.out hb2
       obtain ⟨x0, x1, x2, x3, x4, x5⟩ := pc6 (blk hb2 (blk hb1'.out k0'.out))
       obtain ⟨y0, y1, y2, y3, y4, y5⟩ := pc6 (blk hb2 k1'.out)
       clear c0 c1 c2 c3 c4 c5 d0 d1 d2 d3 d4 d5
       have ⟨hb2', hbw2'⟩ := hyd2 hb2 hbw2
       clear hbw2 hb2
       go_wp2
       go_ret
       exact ⟨false, rfl, ⟨fun h => (by cases h), fun h => absurd h hne'.out⟩, hbw2'.out⟩
     ·have hne : ¬ (⟨ph, pt, pu, pa, pb, pr⟩ : Pic) = ⟨qh, pt, pu, qa, qb, qr⟩ := fun h => by injection h; exact h3 ‹_›
      have ⟨hh', hr', kh', kr', hb0', hb1', hbw1', k0'⟩ := hyd8 hh hr kh kr hb0 hb1 hbw1 k0
      have ⟨k1', kread', hne'⟩ := hyd3 k1 kread hne
      clear hne kread k1 k0 hbw1 hb1 hb0 kr kh hr hh
      go_enter Tryz.func17, Tryz.ntmps17
      go_wp2_with (fail)
      clear hW0 hW1
      go_at_call 16
      refine kread'.out.mono ?_
      rintro e W2 ⟨rfl, hb2⟩
      have hbw2 := bel_set hbw1'.out hb2
      obtain ⟨x0, x1, x2, x3, x4, x5⟩ := pc6 (blk hb2 (blk hb1'.out k0'.out))
      obtain ⟨y0, y1, y2, y3, y4, y5⟩ := pc6 (blk hb2 k1'.out)
      clear c0 c1 c2 c3 c4 c5 d0 d1 d2 d3 d4 d5
      have ⟨hb2', hbw2'⟩ := hyd2 hb2 hbw2
      clear hbw2 hb2
      go_wp2
      go_ret
      exact ⟨false, rfl, ⟨fun h => (by cases h), fun h => absurd h hne'.out⟩, hbw2'.out⟩
    ·have hne : ¬ (⟨ph, pt, pu, pa, pb, pr⟩ : Pic) = ⟨qh, pt, qu, qa, qb, qr⟩ := fun h => by injection h; exact h2 ‹_›
     have ⟨hh', hr', kh', kr', hb0', hb1', hbw1', k0'⟩ := hyd8 hh hr kh kr hb0 hb1 hbw1 k0
     have ⟨k1', kread', hne'⟩ := hyd3 k1 kread hne
     clear hne kread k1 k0 hbw1 hb1 hb0 kr kh hr hh
     go_enter Tryz.func17, Tryz.ntmps17
     go_wp2_with (fail)
     clear hW0 hW1
     go_at_call 16
     refine kread'.out.mono ?_
     rintro e W2 ⟨rfl, hb2⟩
     have hbw2 := bel_set hbw1'.out hb2
     obtain ⟨x0, x1, x2, x3, x4, x5⟩ := pc6 (blk hb2 (blk hb1'.out k0'.out))
     obtain ⟨y0, y1, y2, y3, y4, y5⟩ := pc6 (blk hb2 k1'.out)
     clear c0 c1 c2 c3 c4 c5 d0 d1 d2 d3 d4 d5
     have ⟨hb2', hbw2'⟩ := hyd2 hb2 hbw2
     clear hbw2 hb2
     go_wp2
     go_ret
     exact ⟨false, rfl, ⟨fun h => (by cases h), fun h => absurd h hne'.out⟩, hbw2'.out⟩
   ·have hne : ¬ (⟨ph, pt, pu, pa, pb, pr⟩ : Pic) = ⟨qh, qt, qu, qa, qb, qr⟩ := fun h => by injection h; exact h1 ‹_›
    have ⟨hh', hr', kh', kr', hb0', hb1', hbw1', k0'⟩ := hyd8 hh hr kh kr hb0 hb1 hbw1 k0
    have ⟨k1', kread', hne'⟩ := hyd3 k1 kread hne
    clear hne kread k1 k0 hbw1 hb1 hb0 kr kh hr hh
    go_enter Tryz.func17, Tryz.ntmps17
    go_wp2_with (fail)
    clear hW0 hW1
    go_at_call 16
    refine kread'.out.mono ?_
    rintro e W2 ⟨rfl, hb2⟩
    have hbw2 := bel_set hbw1'.out hb2
    obtain ⟨x0, x1, x2, x3, x4, x5⟩ := pc6 (blk hb2 (blk hb1'.out k0'.out))
    obtain ⟨y0, y1, y2, y3, y4, y5⟩ := pc6 (blk hb2 k1'.out)
    clear c0 c1 c2 c3 c4 c5 d0 d1 d2 d3 d4 d5
    have ⟨hb2', hbw2'⟩ := hyd2 hb2 hbw2
    clear hbw2 hb2
    go_wp2
    go_ret
    exact ⟨false, rfl, ⟨fun h => (by cases h), fun h => absurd h hne'.out⟩, hbw2'.out⟩
 ·have hli : ¬ (pl : Int) = (ql : Int) := by omega
  have hli2 : ¬ (ql : Int) = (pl : Int) := by omega
  have hne : ¬ (⟨ph, pt, pu, pa, pb, pr⟩ : Pic) = ⟨qh, qt, qu, qa, qb, qr⟩ := fun h => by injection h with e1; rw [e1] at hpl; exact hl (hpl.symm.trans hql)
  have ⟨hh', hr', kh', kr', hb0', hb1', hbw1', k0'⟩ := hyd8 hh hr kh kr hb0 hb1 hbw1 k0
  have ⟨k1', kread', hne', hpl', hql'⟩ := hyd5 k1 kread hne hpl hql
  clear hql hpl hne kread k1 k0 hbw1 hb1 hb0 kr kh hr hh
  go_enter Tryz.func17, Tryz.ntmps17
  go_wp2
  clear hW0 hW1
  go_ret
  exact ⟨false, rfl, ⟨fun h => (by cases h), fun h => absurd h hne'.out⟩, hbw1'.out⟩
end Go.Proofs.YtjdgkmcmgagkgaaGreat
namespace Go.Proofs.YtjdgkmcmgagkgaaGreat
set_option maxRecDepth 100000
set_option maxHeartbeats 4000000
open Go.RowKit
set_option linter.unusedVariables false
set_option linter.unusedSimpArgs false
def fdEq (a b c d f a' b' c' d' f' : Int) : Bool := decide ((⟨a, b, c, d, f⟩ : Fnd) = ⟨a', b', c', d', f'⟩)
theorem fdEq_eq (a b c d f a' b' c' d' f' : Int) : fdEq a b c d f a' b' c' d' f' = (a == a' && (b == b' && (c == c' && (d == d' && f == f')))) := by
 unfold fdEq
 rw [Bool.eq_iff_iff]
 simp
theorem run_eqIn_fd (a b c d f a' b' c' d' f' : Int) (w : World) : (Op.equalIn 10000 52 (.agg #[.int .i64 a, .int .i64 b, .int .i64 c, .int .i64 d, .int .i64 f]) (.agg #[.int .i64 a', .int .i64 b', .int .i64 c', .int .i64 d', .int .i64 f'])).run Tryz.prog w = .ok (fdEq a b c d f a' b' c' d' f') w := by
 rw [run_equalIn_struct w 9999 52 _ _ (by kernel_rfl) (by kernel_rfl), fdEq_eq]
 have hf : Tryz.prog.fieldsOf 52 = #[{ name := "Head", type := 3, offset := 0, embedded := false, tag := "", pkgPath := "", byteOffset := 0 },
    { name := "Throw", type := 3, offset := 1, embedded := false, tag := "", pkgPath := "", byteOffset := 8 },
    { name := "Advance", type := 3, offset := 2, embedded := false, tag := "", pkgPath := "", byteOffset := 16 },
    { name := "Low", type := 3, offset := 3, embedded := false, tag := "", pkgPath := "", byteOffset := 24 },
    { name := "High", type := 3, offset := 4, embedded := false, tag := "", pkgPath := "", byteOffset := 32 }] := by kernel_rfl
 rw [hf]
 cases h1 : (a == a') <;> cases h2 : (b == b') <;> cases h3 : (c == c') <;> cases h4 : (d == d') <;> cases h5 : (f == f') <;>
  simp [go_sem, h1, h2, h3, h4, h5, Op.eqFields]
attribute [local go_sem ↓ high] run_eqIn_fd
theorem pf_r9_SameFound (va vb : Value) (xs ys : List Fnd) (w : World) (ha : FndL w va xs) (hb : FndL w vb ys) : Calls Tryz.prog 15 #[va, vb] w fun e w' => e = .returned (.bool (decide (xs = ys))) ∧ ∃ n, w' = w.drewN n := by
 obtain ⟨A, c, rfl, hcm⟩ := ha.slice
 obtain ⟨B, d, rfl, hdm⟩ := hb.slice
 unfold maxLen at hcm hdm
 by_cases hl : xs.length = ys.length
 ·have hl2 : xs.length ≤ ys.length := by omega
  have hl3 : ys.length ≤ xs.length := by omega
  have hl4 : (xs.length : Int) = (ys.length : Int) := by omega
  obtain ⟨yl, hyl⟩ : ∃ yl, ys.length = yl := ⟨_, rfl⟩
  obtain rfl : xs.length = yl := hl.trans hyl
  rw [hyl] at hl3 hl2 hdm ⊢
  clear hl4
  have ⟨ha', hb', hl', hyl'⟩ := hyd4 ha hb hl hyl
  clear hyl hl hb ha
  go_enter Tryz.func15, Tryz.ntmps15
  go_wp2
  go_loopw [5] (fun ix wr => ∃ j : Nat, j ≤ xs.length ∧ ix = .int .i64 j ∧ Hid (∃ n, wr = w.drewN n) ∧ Hid (∀ i (h1 : i < xs.length) (h2 : i < ys.length), i < j → xs[i] = ys[i])) (fun ix _ => xs.length - (intOf ix).toNat)
  case atStart => exact ⟨0, Nat.zero_le _, rfl, Lib.hid ⟨0, rfl⟩, Lib.hid fun i _ _ h => absurd h (Nat.not_lt_zero i)⟩
  case round =>
   obtain ⟨j, hj, rfl, hN, hI⟩ := hrel
   obtain ⟨n, hn⟩ := hN.out
   by_cases hlt : j < xs.length
   ·have hlt2 : j < ys.length := by rw [hyl'.out]; exact hlt
    obtain ⟨b, off, c2, heq, hb1, g0, g1, g2, g3, g4⟩ := FndL.cells ha'.out hlt
    injection heq with e1 e2 e3
    subst e1 e3
    clear e2
    obtain ⟨b2, off2, c2, heq, hb2, k0, k1, k2, k3, k4⟩ := FndL.cells hb'.out hlt2
    injection heq with e1 e2 e3
    subst e1 e3
    clear e2
    have hq : ∀ p, wr.cell? p = w.cell? p := fun p => by rw [hn]; simp
    rw [← hq] at g0 g1 g2 g3 g4 k0 k1 k2 k3 k4
    clear hq hb1 hb2
    obtain ⟨⟨x0, x1, x2, x3, x4⟩, hx⟩ : ∃ y, xs[j] = y := ⟨_, rfl⟩
    obtain ⟨⟨y0, y1, y2, y3, y4⟩, hy⟩ : ∃ y, ys[j] = y := ⟨_, rfl⟩
    rw [hx] at g0 g1 g2 g3 g4
    rw [hy] at k0 k1 k2 k3 k4
    simp only at g0 g1 g2 g3 g4 k0 k1 k2 k3 k4
    have j1 : (j : Int) < (xs.length : Int) := by omega
    have j2 : (0 : Int) ≤ (j : Int) := by omega
    obtain ⟨F, hF⟩ : ∃ F, fdEq x0 x1 x2 x3 x4 y0 y1 y2 y3 y4 = F := ⟨_, rfl⟩
    have hrun := fun (W : World) => (run_eqIn_fd x0 x1 x2 x3 x4 y0 y1 y2 y3 y4 W).trans (by rw [hF])
    cases F with
    | true =>
     have hxy : (⟨x0, x1, x2, x3, x4⟩ : Fnd) = ⟨y0, y1, y2, y3, y4⟩ := of_decide_eq_true hF
     have ⟨hx', hy', hn', hxy'⟩ := hyd4 hx hy hn hxy
     clear hxy hn hy hx
     go_wp2
     go_quiet (fail)
     go_wp2
     go_roundw
     case rel => exact ⟨j + 1, by omega, by go_num, Lib.hid ⟨n + nq, by rw [hn'.out]; exact World.drewN_drewN _ _ _⟩, Lib.hid fun i h1 h2 hij => by
      by_cases e : i = j
      ·subst e; rw [hx'.out, hy'.out]; exact hxy'.out
      ·exact hI.out i h1 h2 (by omega)⟩
     case measure => simp [intOf]; omega
    | false =>
     have hxy : decide (xs = ys) = false := decide_eq_false fun h => by
      subst h
      have h2 := hx.symm.trans hy
      have h3 := of_decide_eq_false hF
      exact h3 h2
     have ⟨hx', hy', hn', hxy'⟩ := hyd4 hx hy hn hxy
     clear hxy hn hy hx
     go_wp2
     go_quiet (fail)
     go_wp2
     go_ret
     exact ⟨by rw [hxy'.out]; rfl, ⟨_, by rw [hn'.out]; exact World.drewN_drewN _ _ _⟩⟩
   ·have hfin : decide (xs = ys) = true := decide_eq_true (List.ext_getElem hl'.out fun i h1 h2 => hI.out i h1 h2 (by omega))
    have ⟨hfin', hn'⟩ := hyd2 hfin hn
    clear hn hfin
    go_wp2
    go_ret
    exact ⟨by rw [hfin'.out]; rfl, n, hn'.out⟩
 ·have hne : decide (xs = ys) = false := decide_eq_false fun h => hl (by rw [h])
  have hli : ¬ (xs.length : Int) = (ys.length : Int) := by omega
  have hli2 : ¬ (ys.length : Int) = (xs.length : Int) := by omega
  obtain ⟨xl, hxl⟩ : ∃ xl, xs.length = xl := ⟨_, rfl⟩
  obtain ⟨yl, hyl⟩ : ∃ yl, ys.length = yl := ⟨_, rfl⟩
  rw [hxl] at hl hli hli2 hcm ⊢
  rw [hyl] at hl hli hli2 hdm ⊢
  have ⟨ha', hb', hne', hxl', hyl'⟩ := hyd5 ha hb hne hxl hyl
  clear hyl hxl hne hb ha
  go_enter Tryz.func15, Tryz.ntmps15
  go_wp2
  go_ret
  exact ⟨by rw [hne'.out]; rfl, 0, rfl⟩
end Go.Proofs.YtjdgkmcmgagkgaaGreat
