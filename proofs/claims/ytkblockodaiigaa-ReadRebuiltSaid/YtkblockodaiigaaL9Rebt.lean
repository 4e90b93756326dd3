/- The law ReadRebuilt: its walk. -/
import Derived.Test.YtkblockodaiigaaReb
import Derived.Test.YtkblockodaiigaaRdAlv
import Derived.Test.YtkblockodaiigaaRdSameP
import Derived.Test.YtkblockodaiigaaRef3
import Derived.Lib.MinMax
import Derived.BigRegion
import Derived.BigQuiet
namespace Go.Proofs.Ytkblockodaiigaa
set_option maxRecDepth 100000
set_option maxHeartbeats 1000000
open Go.RowKit
set_option linter.unusedVariables false
set_option linter.unusedSimpArgs false
theorem lit64b {k : Int} (hw : (Lit.int .i64 k).wf = true) : fit64 k := by
 have h1 : IntKind.i64.min ≤ k ∧ k ≤ IntKind.i64.max := by simpa [Lit.wf] using hw
 have e1 : IntKind.i64.min = -9223372036854775808 := by kernel_rfl
 have e2 : IntKind.i64.max = 9223372036854775807 := by kernel_rfl
 rw [e1, e2] at h1
 exact h1
theorem own_blk {w : World} {base n : Nat} {e : TypeId} {v : Value} {xs : List Value} (h : w.ownsRow base e 1 v n xs) (h0 : 0 < n) : ∃ g c, v = .slice (some ⟨g, 0, none⟩) n c ∧ base ≤ g ∧ g < w.heap.size ∧ c ≤ maxLen := by
 rcases h.2 with ⟨-, h1⟩ | ⟨g, cap, cur, rfl, hb, hg, hnc, hcm, hs, ht⟩
 ·omega
 ·exact ⟨g, cap, rfl, hb, (gsl hg), hcm⟩
structure RbSt (gl gh cl ch N : Nat) (x : List Int) (w W : World) (lo hi : List Int) : Prop where
 below : Below w.heap.size w W
 ol : W.ownsRow w.heap.size 3 1 (.slice (some ⟨gl, 0, none⟩) N cl) N (lo.map vint)
 oh : W.ownsRow w.heap.size 3 1 (.slice (some ⟨gh, 0, none⟩) N ch) N (hi.map vint)
 ll : lo.length = N
 lh : hi.length = N
 lx : x.length = N
 bd : ∀ p (h1 : p < lo.length) (h2 : p < x.length) (h3 : p < hi.length), 0 ≤ lo[p] ∧ lo[p] ≤ x[p] ∧ x[p] ≤ hi[p] ∧ hi[p] ≤ 10000
theorem RbSt.setL {gl gh cl ch N : Nat} {x : List Int} {w W : World} {lo hi : List Int} (h : RbSt gl gh cl ch N x w W lo hi) (hne : gl ≠ gh) (hg : w.heap.size ≤ gl) {k : Nat} (hk : k < N) (hx : k < x.length) {y : Int} (y0 : 0 ≤ y) (y1 : y ≤ x[k]) :
  RbSt gl gh cl ch N x w (W.setCell ⟨gl, k, none⟩ (.int .i64 y)) (lo.set k y) hi := by
 refine ⟨h.below.setCell (p := ⟨gl, k, none⟩) hg _, own_put h.ol k y, own_other h.oh (fun r hr => by simp [Value.ownBlock] at hr; omega) _, by simp [h.ll], h.lh, h.lx, fun p p1 p2 p3 => ?_⟩
 have := h.bd p (by simpa using p1) p2 p3
 rw [List.getElem_set]
 split
 ·next e => subst e; exact ⟨y0, y1, this.2.2⟩
 ·exact this
theorem RbSt.setH {gl gh cl ch N : Nat} {x : List Int} {w W : World} {lo hi : List Int} (h : RbSt gl gh cl ch N x w W lo hi) (hne : gl ≠ gh) (hg : w.heap.size ≤ gh) {k : Nat} (hk : k < N) (hx : k < x.length) {y : Int} (y0 : x[k] ≤ y) (y1 : y ≤ 10000) :
  RbSt gl gh cl ch N x w (W.setCell ⟨gh, k, none⟩ (.int .i64 y)) lo (hi.set k y) := by
 refine ⟨h.below.setCell (p := ⟨gh, k, none⟩) hg _, own_other h.ol (fun r hr => by simp [Value.ownBlock] at hr; omega) _, own_put h.oh k y, h.ll, by simp [h.lh], h.lx, fun p p1 p2 p3 => ?_⟩
 have := h.bd p p1 p2 (by simpa using p3)
 rw [List.getElem_set]
 split
 ·next e => subst e; exact ⟨this.1, this.2.1, y0, y1⟩
 ·exact this
theorem RbSt.next {gl gh cl ch N : Nat} {x : List Int} {w W V : World} {lo hi : List Int} (h : RbSt gl gh cl ch N x w W lo hi) (hb : Below W.heap.size W V) : RbSt gl gh cl ch N x w V lo hi :=
 ⟨bel_set h.below hb, own_below h.ol hb, own_below h.oh hb, h.ll, h.lh, h.lx, h.bd⟩
theorem RbSt.ok {gl gh cl ch N : Nat} {x : List Int} {w W : World} {lo hi : List Int} (h : RbSt gl gh cl ch N x w W lo hi) (h3 : 3 ≤ N) (h96 : N ≤ 96) : rosOk lo = true ∧ rosOk hi = true := by
 have := h.ll
 have := h.lh
 have := h.lx
 refine ⟨rosOk_iff.2 ⟨by omega, by omega, fun i hi' => ?_⟩, rosOk_iff.2 ⟨by omega, by omega, fun i hi' => ?_⟩⟩
 ·have := h.bd i hi' (by omega) (by omega); omega
 ·have := h.bd i (by omega) (by omega) hi'; omega
theorem Arr.at0 {w : World} {A : Option Addr} {n c : Nat} {xs : List Int} (h : Ints w (.slice A n c) xs) (h0 : 0 < xs.length) : ∃ b off, A = some ⟨b, off, none⟩ ∧ b < w.heap.size ∧ ∀ j (h : j < xs.length), w.cell? ⟨b, off + j, none⟩ = some (vint xs[j]) := by
 obtain ⟨A', c', e, -, -, -, h3⟩ := h
 injection e with e1
 subst e1
 exact h3 h0
theorem ints_take {w : World} {A : Option Addr} {n c m : Nat} {xs : List Int} (h : Ints w (.slice A n c) xs) (hm : m ≤ xs.length) (hA : A ≠ none) : Ints w (.slice A m c) (xs.take m) := by
 obtain ⟨A', c', e, h1, h2, h3, h4⟩ := h
 injection e with e1 e2 e3
 subst e1 e3
 have hl : (xs.take m).length = m := by simp; omega
 refine ⟨A, c, by rw [hl], by omega, h2, fun h => absurd h hA, fun h0 => ?_⟩
 obtain ⟨b, off, ha, hb, hc⟩ := h4 (by omega)
 refine ⟨b, off, ha, hb, fun j hj => ?_⟩
 rw [hc j (by omega), List.getElem_take]
theorem Arr.cap {w : World} {A : Option Addr} {n c : Nat} {xs : List Int} (h : Ints w (.slice A n c) xs) : n ≤ c ∧ n = xs.length := by
 obtain ⟨A', c', e, h1, -⟩ := h
 injection e with e1 e2 e3
 omega
theorem walk_ReadRebuilt (f rub bw ab : List Int) (vf vr vb va : Value) (w : World) (hf : Ints w vf f) (hr : Ints w vr rub) (hbw : Ints w vb bw) (hab : Ints w va ab) (hb64 : ∀ n ∈ bw, fit64 n) (ha64 : ∀ n ∈ ab, fit64 n) :
  Calls Try.prog 7 #[vf, vr, vb, va] w fun e w' => e = .returned (.bool true) ∧ Below w.heap.size w w' := by
 have hf0 := Lib.hid hf
 have hr0 := Lib.hid hr
 have hbw0 := Lib.hid hbw
 have hab0 := Lib.hid hab
 have kal := fun W => pf_l9_alive W
 have kgf := fun W (h : Below w.heap.size w W) => pf_r3_Great _ f W (hf.below h)
 have kgr := fun W (h : Below w.heap.size w W) => pf_r3_Great _ rub W (hr.below h)
 obtain ⟨A, c, rfl, hlc, hcm, _, _⟩ := hf
 obtain ⟨A1, c1, rfl, hlc1, hcm1, _, _⟩ := hr
 obtain ⟨A2, c2, rfl, hlc2, hcm2, _, _⟩ := hbw
 obtain ⟨A3, c3, rfl, hlc3, hcm3, _, _⟩ := hab
 unfold maxLen at hcm hcm1 hcm2 hcm3
 have ⟨kal', kgf', kgr', hb64', ha64'⟩ := hyd5 kal kgf kgr hb64 ha64
 clear ha64 hb64 kgr kgf kal
 by_cases g1 : 120 < f.length
 ·have g1' := Lib.hid (decide_eq_true g1)
  clear g1
  go_enter Try.func7, Try.ntmps7
  go_wp2_with (first | (go_at_call 23; ((with_reducible refine (kal'.out w).mono ?_); rintro e w' ⟨rfl, hb1⟩; have hb1' := Lib.hid hb1; clear hb1)) | (go_at_call 27; ((with_reducible refine (kgf'.out _ hb1'.out).mono ?_); rintro e w' ⟨rfl, rfl⟩; rw [g1'.out])))
  go_ret
  exact ⟨rfl, hb1'.out⟩
 have g1' := Lib.hid (decide_eq_false g1)
 have g1n : f.length ≤ 120 := by omega
 clear g1
 by_cases g2 : 120 < rub.length
 ·have g2' := Lib.hid (decide_eq_true g2)
  clear g2
  go_enter Try.func7, Try.ntmps7
  go_wp2_with (first | (go_at_call 23; ((with_reducible refine (kal'.out w).mono ?_); rintro e w' ⟨rfl, hb1⟩; have hb1' := Lib.hid hb1; clear hb1)) | (go_at_call 27; ((with_reducible refine (kgf'.out _ hb1'.out).mono ?_); rintro e w' ⟨rfl, rfl⟩; rw [g1'.out])) | (go_at_call 27; ((with_reducible refine (kgr'.out _ hb1'.out).mono ?_); rintro e w' ⟨rfl, rfl⟩; rw [g2'.out])))
  go_ret
  exact ⟨rfl, hb1'.out⟩
 have g2' := Lib.hid (decide_eq_false g2)
 have g2n : rub.length ≤ 120 := by omega
 clear g2
 by_cases g3 : 120 < bw.length
 ·have g3i : (120 : Int) < (bw.length : Int) := by omega
  go_enter Try.func7, Try.ntmps7
  go_wp2_with (first | (go_at_call 23; ((with_reducible refine (kal'.out w).mono ?_); rintro e w' ⟨rfl, hb1⟩; have hb1' := Lib.hid hb1; clear hb1)) | (go_at_call 27; ((with_reducible refine (kgf'.out _ hb1'.out).mono ?_); rintro e w' ⟨rfl, rfl⟩; rw [g1'.out])) | (go_at_call 27; ((with_reducible refine (kgr'.out _ hb1'.out).mono ?_); rintro e w' ⟨rfl, rfl⟩; rw [g2'.out])))
  go_ret
  exact ⟨rfl, hb1'.out⟩
 have g3i : ¬ (120 : Int) < (bw.length : Int) := by omega
 by_cases g4 : 120 < ab.length
 ·have g4i : (120 : Int) < (ab.length : Int) := by omega
  go_enter Try.func7, Try.ntmps7
  go_wp2_with (first | (go_at_call 23; ((with_reducible refine (kal'.out w).mono ?_); rintro e w' ⟨rfl, hb1⟩; have hb1' := Lib.hid hb1; clear hb1)) | (go_at_call 27; ((with_reducible refine (kgf'.out _ hb1'.out).mono ?_); rintro e w' ⟨rfl, rfl⟩; rw [g1'.out])) | (go_at_call 27; ((with_reducible refine (kgr'.out _ hb1'.out).mono ?_); rintro e w' ⟨rfl, rfl⟩; rw [g2'.out])))
  go_ret
  exact ⟨rfl, hb1'.out⟩
 have g4i : ¬ (120 : Int) < (ab.length : Int) := by omega
 obtain ⟨E, hE⟩ : ∃ E, bothE f rub = E := ⟨_, rfl⟩
 by_cases hE0 : E = 0
 ·subst hE0
  obtain ⟨hfo, hro⟩ := bothE_zero hE
  obtain ⟨k3, k96, -⟩ := rosOk_iff.1 hfo
  have hxo := lift_ok hfo hro
  have hxl := liftL_length f rub
  obtain ⟨x, hx⟩ : ∃ x, liftL f rub = x := ⟨_, rfl⟩
  have hE' := hyd1 hE
  rw [hx] at hxo hxl
  obtain ⟨-, -, hxb⟩ := rosOk_iff.1 hxo
  clear hE
  have ⟨hfo', hro', hxo', hxb', hx', hxl'⟩ := hyd6 hfo hro hxo hxb hx hxl
  clear hxl hx hxb hxo hro hfo
  go_enter Try.func7, Try.ntmps7
  go_wp2_with (first | (go_at_call 23; ((with_reducible refine (kal'.out w).mono ?_); rintro e w' ⟨rfl, hb1⟩; rename World => W1; have hb1' := Lib.hid hb1; clear hb1)) | (go_at_call 27; ((with_reducible refine (kgf'.out _ hb1'.out).mono ?_); rintro e w' ⟨rfl, rfl⟩; rw [g1'.out])) | (go_at_call 27; ((with_reducible refine (kgr'.out _ hb1'.out).mono ?_); rintro e w' ⟨rfl, rfl⟩; rw [g2'.out])) | (go_at_call 28; ((with_reducible refine (pf_ros_Lift _ _ f rub _ (hf0.out.below hb1'.out) (hr0.out.below hb1'.out) 0 hE'.out).mono ?_); rintro e w' ⟨vx, rfl, hb2, hx2, -⟩; have hx2 := hx2 rfl; rw [hx'.out, hxl'.out] at hx2; rename World => W2; obtain ⟨gx, cx, rfl, -, gx1, gx2⟩ := own_blk hx2 (by omega); have hbw2 := bel_set hb1'.out hb2; have hxi := Arr.of_own hx2; clear hx2; have hb2' := Lib.hid hb2; have hbw2' := Lib.hid hbw2; have hxi' := Lib.hid hxi; clear hxi hbw2 hb2)) | (at_builtin; go_must (refine wpList_appI rfl _ _ 36 rfl _ 3 elemInt _ [] rfl (own_empty _ _ _ (Nat.le_refl _)) _ x rfl ?c1 ?c2 ?c3 ?_)))
  case c1 => exact hxi'.out.below (alc1 _ _)
  case c2 => simp; have := hxl'.out; omega
  case c3 => simp
  intro v3 W3 r1 r2 r3 r4
  have hb3 : Below W2.heap.size W2 W3 := (alc1 _ _).trans r2
  have ol3 : W3.ownsRow W2.heap.size 3 1 v3 f.length (x.map vint) := by have h : W3.ownsRow W2.heap.size 3 1 v3 x.length (x.map vint) := r1; rwa [hxl'.out] at h
  obtain ⟨gl, cl, rfl, glb, gl2, glm⟩ := own_blk ol3 (by omega)
  have hxi3 := hxi'.out.below hb3
  clear r1 r2 r3 r4
  have ⟨hb3', ol3', hxi3'⟩ := hyd3 hb3 ol3 hxi3
  clear hxi3 ol3 hb3
  go_wp2_with (first | (at_builtin; go_must (refine wpList_appI rfl _ _ 36 rfl _ 3 elemInt _ [] rfl (own_empty _ _ _ (Nat.le_refl _)) _ x rfl ?c1 ?c2 ?c3 ?_)))
  case c1 => exact hxi3'.out.below (alc1 _ _)
  case c2 => simp; have := hxl'.out; omega
  case c3 => simp
  intro v4 W4 r1 r2 r3 r4
  have hb4 : Below W3.heap.size W3 W4 := (alc1 _ _).trans r2
  have oh4 : W4.ownsRow W3.heap.size 3 1 v4 f.length (x.map vint) := by have h : W4.ownsRow W3.heap.size 3 1 v4 x.length (x.map vint) := r1; rwa [hxl'.out] at h
  obtain ⟨gh, ch, rfl, ghb0, gh2, ghm⟩ := own_blk oh4 (by omega)
  have hz3 := hb3'.out.size
  have ghb : W2.heap.size ≤ gh := by omega
  have hgne : gl ≠ gh := by omega
  have st0 : RbSt gl gh cl ch f.length x W2 W4 x x := ⟨bel_set hb3'.out hb4, own_below ol3'.out hb4, own_base oh4 hz3, hxl'.out, hxl'.out, hxl'.out, fun p p1 _ _ => ⟨(hxb'.out p p1).1, Int.le_refl _, Int.le_refl _, (hxb'.out p p1).2⟩⟩
  unfold maxLen at glm ghm
  clear r1 r2 r3 r4
  have ⟨hb4', oh4', st0'⟩ := hyd3 hb4 oh4 st0
  clear st0 oh4 hb4
  go_upto_region 9 with (fail)
  go_loopw [65, 14] (fun i _ wr => ∃ (k : Nat) (lo hi : List Int), k ≤ f.length ∧ i = .int .i64 k ∧ Hid (RbSt gl gh cl ch f.length x W2 wr lo hi)) (fun i _ _ => f.length - (intOf i).toNat)
  case atStart => exact ⟨0, x, x, Nat.zero_le _, rfl, st0'⟩
  case round =>
   obtain ⟨k, lo, hi, hk, rfl, hst⟩ := hrel
   clear st0'
   by_cases hlt : k < f.length
   ·have i1 : (0 : Int) ≤ (k : Int) := by omega
    have i2 : (k : Int) < (f.length : Int) := by omega
    have hxk : k < x.length := by rw [hxl'.out]; exact hlt
    --@ARM1
    by_cases kb : k < bw.length
    ·obtain ⟨b2, o2, rfl, hl2, cb9⟩ := (Arr.at0 (hbw0.out.below (bel_set hbw2'.out hst.out.below)) (by omega))
     have cb := cb9 k kb
     clear cb9
     have kb1 : (k : Int) < (bw.length : Int) := by omega
     obtain ⟨t, ht⟩ : ∃ t, bw[k] = t := ⟨_, rfl⟩
     have ht64 := hb64'.out bw[k] (List.getElem_mem kb)
     rw [ht] at cb ht64
     by_cases tp : 0 < t
     ·have bd1 := hst.out.bd k (by rw [hst.out.ll]; omega) hxk (by rw [hst.out.lh]; omega)
      have cl1 := own_cell hst.out.ol hst.out.ll (List.getElem?_eq_getElem (show k < _ by rw [hst.out.ll]; omega))
      have fl1 := hst.out.ol.frozenAt k
      obtain ⟨l1, hl1⟩ : ∃ l1, lo[k]'(by rw [hst.out.ll]; omega) = l1 := ⟨_, rfl⟩
      rw [hl1] at bd1 cl1
      obtain ⟨m0, hm0⟩ : ∃ m0, min t 10000 = m0 := ⟨_, rfl⟩
      have hm2 : 1 ≤ m0 ∧ m0 ≤ 10000 := by omega
      obtain ⟨y0, hy0⟩ : ∃ y0, max (l1 - m0) 0 = y0 := ⟨_, rfl⟩
      have hy2 : 0 ≤ y0 ∧ y0 ≤ x[k] := by omega
      have hw0 : IntKind.i64.wrap (l1 - m0) = l1 - m0 := IntWalk.i64_in _ (by omega)
      have st1 := ((hst.out.setL hgne glb (k := k) (by omega) hxk hy2.1 hy2.2).next (Below.refl _ _).drew)
      have hm2a : (1 : Int) ≤ m0 := hm2.1
      have hm2b : m0 ≤ 10000 := hm2.2
      have h1a : (0 : Int) ≤ l1 := by omega
      have h1b : l1 ≤ 10000 := by omega
      have ⟨st1', hst'⟩ := hyd2 st1 hst
      clear ht64 ht hm2 hy2 bd1 hl1 hst st1
      go_wp2_with (fail)
      go_region
      generalize (wr.setCell ⟨gl, k, none⟩ (.int .i64 y0)).drew = W8 at st1' ⊢
      clear cl1 fl1 cb hw0 hy0 hm0 hm2a hm2b h1a h1b
      by_cases ka : k < ab.length
      ·obtain ⟨b3, o3, rfl, hl3, ca9⟩ := (Arr.at0 (hab0.out.below (bel_set hbw2'.out st1'.out.below)) (by omega))
       have ca := ca9 k ka
       clear ca9
       have ka1 : (k : Int) < (ab.length : Int) := by omega
       obtain ⟨s, hs⟩ : ∃ s, ab[k] = s := ⟨_, rfl⟩
       have hs64 := ha64'.out ab[k] (List.getElem_mem ka)
       rw [hs] at ca hs64
       by_cases sp : 0 < s
       ·have bd2 := st1'.out.bd k (by rw [st1'.out.ll]; omega) hxk (by rw [st1'.out.lh]; omega)
        have ch1 := own_cell st1'.out.oh st1'.out.lh (List.getElem?_eq_getElem (show k < _ by rw [st1'.out.lh]; omega))
        have fh1 := st1'.out.oh.frozenAt k
        obtain ⟨h1, hh1⟩ : ∃ h1, hi[k]'(by rw [st1'.out.lh]; omega) = h1 := ⟨_, rfl⟩
        rw [hh1] at bd2 ch1
        obtain ⟨m1, hm1⟩ : ∃ m1, min s 10000 = m1 := ⟨_, rfl⟩
        have hm2 : 1 ≤ m1 ∧ m1 ≤ 10000 := by omega
        obtain ⟨y1, hy1⟩ : ∃ y1, min (h1 + m1) 10000 = y1 := ⟨_, rfl⟩
        have hy2 : x[k] ≤ y1 ∧ y1 ≤ 10000 := by omega
        have hw1 : IntKind.i64.wrap (h1 + m1) = h1 + m1 := IntWalk.i64_in _ (by omega)
        have st2 := ((st1'.out.setH hgne ghb (k := k) (by omega) hxk hy2.1 hy2.2).next (Below.refl _ _).drew)
        have hm2a : (1 : Int) ≤ m1 := hm2.1
        have hm2b : m1 ≤ 10000 := hm2.2
        have h1a : (0 : Int) ≤ h1 := by omega
        have h1b : h1 ≤ 10000 := by omega
        have st2' := hyd1 st2
        clear hs64 hs hm2 hy2 bd2 hh1 st2
        go_wp2_with (fail)
        go_region
        generalize (W8.setCell ⟨gh, k, none⟩ (.int .i64 y1)).drew = W9 at st2' ⊢
        clear ch1 fh1
        go_wp2
        go_roundw
        case rel => exact ⟨k + 1, _, _, by omega, by go_num, st2'⟩
        case measure => simp [intOf]; omega
       ·clear hs64 hs
        go_wp2
        go_roundw
        case rel => exact ⟨k + 1, _, _, by omega, by go_num, st1'⟩
        case measure => simp [intOf]; omega
      ·have ka1 : ¬ (k : Int) < (ab.length : Int) := by omega
       go_wp2
       go_roundw
       case rel => exact ⟨k + 1, _, _, by omega, by go_num, st1'⟩
       case measure => simp [intOf]; omega
     ·clear ht64 ht
      by_cases ka : k < ab.length
      ·obtain ⟨b3, o3, rfl, hl3, ca9⟩ := (Arr.at0 (hab0.out.below (bel_set hbw2'.out hst.out.below)) (by omega))
       have ca := ca9 k ka
       clear ca9
       have ka1 : (k : Int) < (ab.length : Int) := by omega
       obtain ⟨s, hs⟩ : ∃ s, ab[k] = s := ⟨_, rfl⟩
       have hs64 := ha64'.out ab[k] (List.getElem_mem ka)
       rw [hs] at ca hs64
       by_cases sp : 0 < s
       ·have bd2 := hst.out.bd k (by rw [hst.out.ll]; omega) hxk (by rw [hst.out.lh]; omega)
        have ch1 := own_cell hst.out.oh hst.out.lh (List.getElem?_eq_getElem (show k < _ by rw [hst.out.lh]; omega))
        have fh1 := hst.out.oh.frozenAt k
        obtain ⟨h1, hh1⟩ : ∃ h1, hi[k]'(by rw [hst.out.lh]; omega) = h1 := ⟨_, rfl⟩
        rw [hh1] at bd2 ch1
        obtain ⟨m1, hm1⟩ : ∃ m1, min s 10000 = m1 := ⟨_, rfl⟩
        have hm2 : 1 ≤ m1 ∧ m1 ≤ 10000 := by omega
        obtain ⟨y1, hy1⟩ : ∃ y1, min (h1 + m1) 10000 = y1 := ⟨_, rfl⟩
        have hy2 : x[k] ≤ y1 ∧ y1 ≤ 10000 := by omega
        have hw1 : IntKind.i64.wrap (h1 + m1) = h1 + m1 := IntWalk.i64_in _ (by omega)
        have st2 := ((hst.out.setH hgne ghb (k := k) (by omega) hxk hy2.1 hy2.2).next (Below.refl _ _).drew)
        have hm2a : (1 : Int) ≤ m1 := hm2.1
        have hm2b : m1 ≤ 10000 := hm2.2
        have h1a : (0 : Int) ≤ h1 := by omega
        have h1b : h1 ≤ 10000 := by omega
        have st2' := hyd1 st2
        clear hs64 hs hm2 hy2 bd2 hh1 st2
        go_wp2_with (fail)
        go_region
        generalize (wr.setCell ⟨gh, k, none⟩ (.int .i64 y1)).drew = W9 at st2' ⊢
        clear ch1 fh1
        go_wp2
        go_roundw
        case rel => exact ⟨k + 1, _, _, by omega, by go_num, st2'⟩
        case measure => simp [intOf]; omega
       ·clear hs64 hs
        go_wp2
        go_roundw
        case rel => exact ⟨k + 1, _, _, by omega, by go_num, hst⟩
        case measure => simp [intOf]; omega
      ·have ka1 : ¬ (k : Int) < (ab.length : Int) := by omega
       go_wp2
       go_roundw
       case rel => exact ⟨k + 1, _, _, by omega, by go_num, hst⟩
       case measure => simp [intOf]; omega
    ·have kb1 : ¬ (k : Int) < (bw.length : Int) := by omega
     by_cases ka : k < ab.length
     ·obtain ⟨b3, o3, rfl, hl3, ca9⟩ := (Arr.at0 (hab0.out.below (bel_set hbw2'.out hst.out.below)) (by omega))
      have ca := ca9 k ka
      clear ca9
      have ka1 : (k : Int) < (ab.length : Int) := by omega
      obtain ⟨s, hs⟩ : ∃ s, ab[k] = s := ⟨_, rfl⟩
      have hs64 := ha64'.out ab[k] (List.getElem_mem ka)
      rw [hs] at ca hs64
      by_cases sp : 0 < s
      ·have bd2 := hst.out.bd k (by rw [hst.out.ll]; omega) hxk (by rw [hst.out.lh]; omega)
       have ch1 := own_cell hst.out.oh hst.out.lh (List.getElem?_eq_getElem (show k < _ by rw [hst.out.lh]; omega))
       have fh1 := hst.out.oh.frozenAt k
       obtain ⟨h1, hh1⟩ : ∃ h1, hi[k]'(by rw [hst.out.lh]; omega) = h1 := ⟨_, rfl⟩
       rw [hh1] at bd2 ch1
       obtain ⟨m1, hm1⟩ : ∃ m1, min s 10000 = m1 := ⟨_, rfl⟩
       have hm2 : 1 ≤ m1 ∧ m1 ≤ 10000 := by omega
       obtain ⟨y1, hy1⟩ : ∃ y1, min (h1 + m1) 10000 = y1 := ⟨_, rfl⟩
       have hy2 : x[k] ≤ y1 ∧ y1 ≤ 10000 := by omega
       have hw1 : IntKind.i64.wrap (h1 + m1) = h1 + m1 := IntWalk.i64_in _ (by omega)
       have st2 := ((hst.out.setH hgne ghb (k := k) (by omega) hxk hy2.1 hy2.2).next (Below.refl _ _).drew)
       have hm2a : (1 : Int) ≤ m1 := hm2.1
       have hm2b : m1 ≤ 10000 := hm2.2
       have h1a : (0 : Int) ≤ h1 := by omega
       have h1b : h1 ≤ 10000 := by omega
       have st2' := hyd1 st2
       clear hs64 hs hm2 hy2 bd2 hh1 st2
       go_wp2_with (fail)
       go_region
       generalize (wr.setCell ⟨gh, k, none⟩ (.int .i64 y1)).drew = W9 at st2' ⊢
       clear ch1 fh1
       go_wp2
       go_roundw
       case rel => exact ⟨k + 1, _, _, by omega, by go_num, st2'⟩
       case measure => simp [intOf]; omega
      ·clear hs64 hs
       go_wp2
       go_roundw
       case rel => exact ⟨k + 1, _, _, by omega, by go_num, hst⟩
       case measure => simp [intOf]; omega
     ·have ka1 : ¬ (k : Int) < (ab.length : Int) := by omega
      go_wp2
      go_roundw
      case rel => exact ⟨k + 1, _, _, by omega, by go_num, hst⟩
      case measure => simp [intOf]; omega
    --@END1
   ·obtain rfl : k = f.length := by omega
    obtain ⟨slo, shi⟩ := hst.out.ok k3 k96
    have hll := hst.out.ll
    have hlh := hst.out.lh
    have hrh : rubOk rub (hi.length : Int) = true := by rw [hlh]; exact hro'.out
    obtain ⟨re, hfg0, hlg0⟩ := reb_ok (f := f) (b := rub) (low := lo) (high := hi) hfo'.out hro'.out slo shi hll hlh
     (fun p h => by simp only [hx'.out]; exact (hst.out.bd p (by omega) (by rw [hxl'.out]; exact h) (by omega)).2.1)
     (fun p h => by simp only [hx'.out]; exact (hst.out.bd p (by omega) (by rw [hxl'.out]; exact h) (by omega)).2.2.1)
    have hfg : ∀ p (h : p < f.length) (h2 : p < (underL hi rub).length), f[p] ≤ (underL hi rub)[p] := fun p h h2 => hfg0 p h
    have hlg : ∀ p (h : p < lo.length) (h2 : p < (groundL hi rub).length), lo[p] ≤ (groundL hi rub)[p] := fun p h h2 => hlg0 p (by omega)
    clear hfg0 hlg0
    have hrs := reb_self hrh shi
    have hbo : bothE hi rub = 0 := by unfold bothE; rw [shi, if_pos rfl, hrh, if_pos rfl]
    have hgo := under_ok shi hrh
    have hgl : (underL hi rub).length = f.length := by rw [underL_length, hlh]
    have hbg : bothE (underL hi rub) rub = 0 := by unfold bothE; rw [hgo, if_pos rfl, hgl, hro'.out, if_pos rfl]
    have hyl : (groundL hi rub).length = f.length := by rw [groundL_length, hlh]
    have hyh : ∀ p (h : p < (groundL hi rub).length) (h2 : p < hi.length), (groundL hi rub)[p] ≤ hi[p] := fun p h h2 => ground_le (by have := (rubOk_iff.1 hrh).1; omega) h2
    have kreb : ∀ W, Ints W (.slice (some ⟨gl, 0, none⟩) f.length cl) lo → Ints W (.slice (some ⟨gh, 0, none⟩) f.length ch) hi → Ints W (.slice A1 rub.length c1) rub → Calls Try.prog 29 #[.slice (some ⟨gl, 0, none⟩) f.length cl, .slice (some ⟨gh, 0, none⟩) f.length ch, .slice A1 rub.length c1] W fun e w' => ∃ v', e = .returned (.tuple #[v', .int .i64 0, .int .i64 0]) ∧ Below W.heap.size W w' ∧ w'.ownsRow W.heap.size 3 1 v' f.length ((underL hi rub).map vint) := fun W a b d => by
     refine (pf_Rebuild _ _ _ lo hi rub W a b d).mono ?_
     rintro e w' ⟨v', rfl, h1, h2⟩
     have e1 : rebN lo hi rub = 0 := by unfold rebN; rw [re, if_neg (by decide)]
     have e2 : rebL lo hi rub = underL hi rub := by unfold rebL; rw [re, if_pos rfl]
     rw [e2, hgl] at h2
     exact ⟨v', by rw [e1, re]; rfl, h1, h2⟩
    have klift : ∀ W v, Ints W v (underL hi rub) → Ints W (.slice A1 rub.length c1) rub → Calls Try.prog 28 #[v, .slice A1 rub.length c1] W fun e w' => ∃ v', e = .returned (.tuple #[v', .int .i64 0]) ∧ Below W.heap.size W w' ∧ w'.ownsRow W.heap.size 3 1 v' f.length ((groundL hi rub).map vint) := fun W v a d => by
     refine (pf_ros_Lift _ _ (underL hi rub) rub W a d 0 hbg).mono ?_
     rintro e w' ⟨v', rfl, h1, h2, -⟩
     have h2 := h2 rfl
     rw [show liftL (underL hi rub) rub = groundL hi rub from rfl, hyl] at h2
     exact ⟨v', rfl, h1, h2⟩
    have kgrd : ∀ W, Ints W (.slice (some ⟨gh, 0, none⟩) f.length ch) hi → Ints W (.slice A1 rub.length c1) rub → Calls Try.prog 30 #[.slice (some ⟨gh, 0, none⟩) f.length ch, .slice A1 rub.length c1] W fun e w' => ∃ v', e = .returned (.tuple #[v', .int .i64 0]) ∧ Below W.heap.size W w' ∧ w'.ownsRow W.heap.size 3 1 v' f.length ((groundL hi rub).map vint) := fun W a d => by
     refine (pf_ros_Grind _ _ hi rub W a d 0 hbo).mono ?_
     rintro e w' ⟨v', rfl, h1, h2, -⟩
     have h2 := h2 rfl
     rw [hyl] at h2
     exact ⟨v', rfl, h1, h2⟩
    have kre2 : ∀ W, Ints W (.slice (some ⟨gh, 0, none⟩) f.length ch) hi → Ints W (.slice A1 rub.length c1) rub → Calls Try.prog 29 #[.slice (some ⟨gh, 0, none⟩) f.length ch, .slice (some ⟨gh, 0, none⟩) f.length ch, .slice A1 rub.length c1] W fun e w' => ∃ v', e = .returned (.tuple #[v', .int .i64 (rebN hi hi rub : Nat), .int .i64 (rebE hi hi rub)]) ∧ Below W.heap.size W w' ∧ w'.ownsRow W.heap.size 3 1 v' (rebL hi hi rub).length ((rebL hi hi rub).map vint) := fun W a d => pf_Rebuild _ _ _ hi hi rub W a a d
    have hrl : rebE hi hi rub = 6 → rebL hi hi rub = [] := fun h => by unfold rebL; rw [h, if_neg (by decide)]
    generalize groundL hi rub = y at hlg hrs hyl hyh klift kgrd
    generalize underL hi rub = g at hfg hgl kreb klift
    have hbwr := bel_set hbw2'.out hst.out.below
    have ⟨slo', shi', hrh', hfg', hlg', hrs', hgl', hyl'⟩ := hyd8 slo shi hrh hfg hlg hrs hgl hyl
    have ⟨hyh', kreb', klift', kgrd', kre2', hrl', hbwr'⟩ := hyd7 hyh kreb klift kgrd kre2 hrl hbwr
    clear hbg hgo hbo re hbwr hrl kre2 kgrd klift kreb hyh hyl hgl hrs hlg hfg hrh shi slo
    go_wp2_with (first | (go_at_call 29; ((with_reducible refine (kreb'.out wr (Arr.of_own hst.out.ol) (Arr.of_own hst.out.oh) (hr0.out.below hbwr'.out)).mono ?_); rintro e w' ⟨vg, rfl, hb5, hg5⟩; rename World => W5; obtain ⟨gg, cg, rfl, -, gg2, ggm⟩ := own_blk hg5 (by omega); have hbw5 := bel_set hbwr'.out hb5; have st5 := hst.out.next hb5; have hb5' := Lib.hid hb5; have hg5' := Lib.hid hg5; have hbw5' := Lib.hid hbw5; have st5' := Lib.hid st5; clear st5 hbw5 hg5 hb5)) | (go_at_call 28; ((with_reducible refine (klift'.out W5 _ (Arr.of_own hg5'.out) (hr0.out.below hbw5'.out)).mono ?_); rintro e w' ⟨vy, rfl, hb6, hy6⟩; rename World => W6; obtain ⟨gy, cy, rfl, -, gy2, gym⟩ := own_blk hy6 (by omega); have hbw6 := bel_set hbw5'.out hb6; have st6 := st5'.out.next hb6; have hg6 := own_below hg5'.out hb6; have hb6' := Lib.hid hb6; have hy6' := Lib.hid hy6; have hbw6' := Lib.hid hbw6; have st6' := Lib.hid st6; have hg6' := Lib.hid hg6; clear hg6 st6 hbw6 hy6 hb6)))
    go_loopw [159, 20] (fun i _ wr => ∃ k : Nat, k ≤ f.length ∧ i = .int .i64 k ∧ Hid (Below W6.heap.size W6 wr)) (fun i _ _ => f.length - (intOf i).toNat)
    case atStart => exact ⟨0, Nat.zero_le _, rfl, Lib.hid (Below.refl _ _)⟩
    case round =>
     rename World => V
     obtain ⟨k, hk, rfl, hbr⟩ := hrel
     have st7 := st6'.out.next hbr.out
     have hg7 := own_below hg6'.out hbr.out
     have hy7 := own_below hy6'.out hbr.out
     have hbw7 := bel_set hbw6'.out hbr.out
     by_cases hlt : k < f.length
     ·obtain ⟨b0, o0, rfl, hl0, cf9⟩ := Arr.at0 (hf0.out.below hbw7) (by omega)
      have cf := cf9 k hlt
      have cy := own_cell hy7 hyl'.out (List.getElem?_eq_getElem (show k < y.length by rw [hyl'.out]; exact hlt))
      have cl1 := own_cell st7.ol hll (List.getElem?_eq_getElem (show k < lo.length by omega))
      have ch1 := own_cell st7.oh hlh (List.getElem?_eq_getElem (show k < hi.length by omega))
      have cg1 := own_cell hg7 hgl'.out (List.getElem?_eq_getElem (show k < g.length by rw [hgl'.out]; exact hlt))
      have e1 := hlg'.out k (by omega) (by rw [hyl'.out]; exact hlt)
      have e2 := hyh'.out k (by rw [hyl'.out]; exact hlt) (by omega)
      have e3 := hfg'.out k hlt (by rw [hgl'.out]; exact hlt)
      clear cf9
      generalize f[k] = fk at cf e3
      generalize y[k]'(by rw [hyl'.out]; exact hlt) = yk at cy e1 e2
      generalize lo[k] = lk at cl1 e1
      generalize hi[k] = hk1 at ch1 e2
      generalize g[k]'(by rw [hgl'.out]; exact hlt) = gk at cg1 e3
      have i1 : (0 : Int) ≤ (k : Int) := by omega
      have i2 : (k : Int) < (f.length : Int) := by omega
      have d1 : decide (yk < lk) = false := decide_eq_false (by omega)
      have d2 : decide (hk1 < yk) = false := decide_eq_false (by omega)
      have d3 : decide (gk < fk) = false := decide_eq_false (by omega)
      have hbr' := hyd1 hbr
      clear hbw7 hy7 hg7 st7 e3 e2 e1 hbr
      go_wp2_with (fail)
      go_quiet (fail)
      go_wp2
      go_roundw
      case rel => exact ⟨k + 1, by omega, by go_num, Lib.hid (below_drewN' hbr'.out _)⟩
      case measure => simp [intOf]; omega
     ·obtain rfl : k = f.length := by omega
      have ⟨st7', hbw7'⟩ := hyd2 st7 hbw7
      clear hy7 hg7 hbw7 st7
      have ksm : ∀ W v v' (l : List Int), Ints W v l → Ints W v' l → Calls Try.prog 17 #[v, v'] W fun e w' => e = .returned (.bool true) ∧ ∃ n, w' = W.drewN n := fun W v v' l a b => by
       have h := pf_l9_same v v' l l W a b
       rwa [show (l == l) = true by simp] at h
      rcases hrs'.out with ⟨r0, ry⟩ | ⟨r6, rm1, rm2, rm3⟩
      ·have kre3 := kre2'.out
       have kgrd3 := kgrd'.out
       simp only [r0] at kre3
       simp only [ry] at kgrd3
       generalize rebL hi hi rub = ol at kre3
       generalize rebN hi hi rub = om at kre3
       have ⟨r0', ry', kre3', kgrd3', ksm'⟩ := hyd5 r0 ry kre3 kgrd3 ksm
       clear ksm kgrd3 kre3 ry r0
       go_wp2_with (first | (go_at_call 29; ((with_reducible refine (kre3'.out V (Arr.of_own st7'.out.oh) (hr0.out.below hbw7'.out)).mono ?_); rintro e w' ⟨vo, rfl, hb8, ho8⟩; rename World => W8; have hbw8 := bel_set hbw7'.out hb8; have st8 := st7'.out.next hb8; obtain ⟨oA, oc, rfl⟩ := slice_formR ho8; have hb8' := Lib.hid hb8; have ho8' := Lib.hid ho8; have hbw8' := Lib.hid hbw8; have st8' := Lib.hid st8; clear st8 hbw8 ho8 hb8)) | (go_at_call 30; ((with_reducible refine (kgrd3'.out W8 (Arr.of_own st8'.out.oh) (hr0.out.below hbw8'.out)).mono ?_); rintro e w' ⟨vd, rfl, hb9, hd9⟩; rename World => W9; obtain ⟨gd, cd, rfl, -, gd2, gdm⟩ := own_blk hd9 (by omega); have hbw9 := bel_set hbw8'.out hb9; have st9 := st8'.out.next hb9; have hb9' := Lib.hid hb9; have hd9' := Lib.hid hd9; have hbw9' := Lib.hid hbw9; have st9' := Lib.hid st9; clear st9 hbw9 hd9 hb9)) | (go_at_call 17; ((with_reducible refine (ksm'.out _ _ _ hi (Arr.of_own hd9'.out) (Arr.of_own st9'.out.oh)).mono ?_); rintro e w' ⟨rfl, nd, rfl⟩)))
       go_ret
       exact ⟨rfl, below_drewN' hbw9'.out nd⟩
      ·have kre3 := kre2'.out
       simp only [r6, hrl'.out r6, List.length_nil, List.map_nil] at kre3
       generalize rebN hi hi rub = m at rm1 rm2 rm3 kre3
       have rm2 := rm2 (by rw [hyl'.out]; omega) rm1
       have ⟨r6', rm2', rm3', kre3', ksm'⟩ := hyd5 r6 rm2 rm3 kre3 ksm
       clear ksm kre3 rm3 rm2 r6
       go_wp2_with (first | (go_at_call 29; ((with_reducible refine (kre3'.out V (Arr.of_own st7'.out.oh) (hr0.out.below hbw7'.out)).mono ?_); rintro e w' ⟨vo, rfl, hb8, ho8⟩; rename World => W8; have hbw8 := bel_set hbw7'.out hb8; have st8 := st7'.out.next hb8; obtain ⟨oA, oc, rfl⟩ := slice_formR ho8; have hb8' := Lib.hid hb8; have ho8' := Lib.hid ho8; have hbw8' := Lib.hid hbw8; have st8' := Lib.hid st8; clear st8 hbw8 ho8 hb8)) | (go_at_call 30; ((with_reducible refine (kgrd'.out W8 (Arr.of_own st8'.out.oh) (hr0.out.below hbw8'.out)).mono ?_); rintro e w' ⟨vd, rfl, hb9, hd9⟩; rename World => W9; obtain ⟨gd, cd, rfl, -, gd2, gdm⟩ := own_blk hd9 (by omega); have hbw9 := bel_set hbw8'.out hb9; have st9 := st8'.out.next hb9; have hb9' := Lib.hid hb9; have hd9' := Lib.hid hd9; have hbw9' := Lib.hid hbw9; have st9' := Lib.hid st9; clear st9 hbw9 hd9 hb9)))
       have iy := Arr.of_own hd9'.out
       have ih := Arr.of_own st9'.out.oh
       have zy := iy.cap.1
       have zh := ih.cap.1
       have ks : ∀ n, Calls Try.prog 17 #[.slice (some ⟨gd, 0, none⟩) m cd, .slice (some ⟨gh, 0, none⟩) m ch] (W9.drewN n) fun e w' => e = .returned (.bool true) ∧ ∃ k, w' = (W9.drewN n).drewN k := fun n => by
        have t1 := ints_take iy (m := m) (by rw [hyl'.out]; omega) (by simp)
        have t2 := ints_take ih (m := m) (by omega) (by simp)
        rw [rm3'.out] at t1
        exact ksm'.out _ _ _ _ (ints_drew t1 n) (ints_drew t2 n)
       have cy := own_cell hd9'.out hyl'.out (List.getElem?_eq_getElem (show m < y.length by rw [hyl'.out]; omega))
       have ch1 := own_cell st9'.out.oh hlh (List.getElem?_eq_getElem (show m < hi.length by omega))
       have e1 := rm2'.out
       generalize y[m]'(by rw [hyl'.out]; omega) = ym at cy e1
       generalize hi[m] = hm at ch1 e1
       have i1 : (0 : Int) ≤ (m : Int) := by omega
       have i2 : (m : Int) < (f.length : Int) := by omega
       have i3 : (m : Int) ≤ (cd : Int) := by omega
       have i4 : (m : Int) ≤ (ch : Int) := by omega
       have n3 : m ≤ cd := by omega
       have n4 : m ≤ ch := by omega
       have d1 : decide (ym < hm) = true := decide_eq_true e1
       have ks' := hyd1 ks
       clear e1 ih iy ks
       go_quiet ((go_at_call 17; first | (with_reducible exact Calls.quiet_of (ks'.out _)) | exact Calls.quiet_of (ks'.out _)))
       go_wp2
       go_ret
       exact ⟨rfl, below_drewN' hbw9'.out _⟩
 ·have hE0d : decide (E = 0) = false := decide_eq_false hE0
  have hE' := hyd1 hE
  clear hE
  go_enter Try.func7, Try.ntmps7
  go_wp2_with (first | (go_at_call 23; ((with_reducible refine (kal'.out w).mono ?_); rintro e w' ⟨rfl, hb1⟩; rename World => W1; have hb1' := Lib.hid hb1; clear hb1)) | (go_at_call 27; ((with_reducible refine (kgf'.out _ hb1'.out).mono ?_); rintro e w' ⟨rfl, rfl⟩; rw [g1'.out])) | (go_at_call 27; ((with_reducible refine (kgr'.out _ hb1'.out).mono ?_); rintro e w' ⟨rfl, rfl⟩; rw [g2'.out])) | (go_at_call 28; ((with_reducible refine (pf_ros_Lift _ _ f rub _ (hf0.out.below hb1'.out) (hr0.out.below hb1'.out) E hE'.out).mono ?_); rintro e w' ⟨vx, rfl, hb2, -, hx2⟩; have hbw2 := bel_set hb1'.out hb2; have hb2' := Lib.hid hb2; have hbw2' := Lib.hid hbw2; have hx2' := Lib.hid hx2; clear hx2 hbw2 hb2)))
  go_ret
  exact ⟨rfl, hbw2'.out⟩
theorem law_ReadRebuilt (a0 : List Int) (x0 : Value) (a1 : List Int) (x1 : Value) (a2 : List Int) (x2 : Value) (a3 : List Int) (x3 : Value) (w : World) (w0 : Ints w x0 a0 ∧ ∀ n ∈ a0, (Lit.int .i64 n).wf = true) (w1 : Ints w x1 a1 ∧ ∀ n ∈ a1, (Lit.int .i64 n).wf = true) (w2 : Ints w x2 a2 ∧ ∀ n ∈ a2, (Lit.int .i64 n).wf = true) (w3 : Ints w x3 a3 ∧ ∀ n ∈ a3, (Lit.int .i64 n).wf = true) :
  Calls Try.prog 7 #[x0, x1, x2, x3] w fun e w' => e = .returned (.bool true) ∧ Below w.heap.size w w' :=
 walk_ReadRebuilt a0 a1 a2 a3 x0 x1 x2 x3 w w0.1 w1.1 w2.1 w3.1 (fun i h => lit64b (w2.2 i h)) (fun i h => lit64b (w3.2 i h))
end Go.Proofs.Ytkblockodaiigaa
