/- The law ReadRefuses: its walk. -/
import Derived.Test.YtkblockodaiigaaRdTwin
import Derived.Test.YtkblockodaiigaaRdGrtR
import Derived.Test.YtkblockodaiigaaRdSameP
import Derived.Test.YtkblockodaiigaaRdCcR
import Derived.Test.YtkblockodaiigaaMonoR
namespace Go.Proofs.Ytkblockodaiigaa
set_option maxRecDepth 100000
set_option maxHeartbeats 1000000
open Go.RowKit
set_option linter.unusedVariables false
set_option linter.unusedSimpArgs false
theorem lit64r {k : Int} (hw : (Lit.int .i64 k).wf = true) : fit64 k := by
 have h1 : IntKind.i64.min ≤ k ∧ k ≤ IntKind.i64.max := by simpa [Lit.wf] using hw
 have e1 : IntKind.i64.min = -9223372036854775808 := by kernel_rfl
 have e2 : IntKind.i64.max = 9223372036854775807 := by kernel_rfl
 rw [e1, e2] at h1
 exact h1
theorem law_ReadRefuses (a0 : Pic) (x0 : Value) (a1 : List Int) (x1 : Value) (w : World) (w0 : IsPic w x0 a0 ∧ a0.Fit) (w1 : Ints w x1 a1 ∧ ∀ n ∈ a1, (Lit.int .i64 n).wf = true) :
  Calls Try.prog 4 #[x0, x1] w fun e w' => e = .returned (.bool true) ∧ Below w.heap.size w w' := by
 obtain ⟨hp, hf⟩ := w0
 obtain ⟨hvl, hfl9⟩ := w1
 have hfl : ∀ i ∈ a1, fit64 i := fun i hi => lit64r (hfl9 i hi)
 clear hfl9
 have hp9 := hp
 obtain ⟨vh, vr, rfl, hh, hr⟩ := hp
 obtain ⟨HA, hc, rfl, -⟩ := hh.slice
 obtain ⟨RA, rc, rfl, hrl⟩ := hr.slice
 obtain ⟨LA, lc, rfl, hlc, hlm, -, hlr⟩ := id hvl
 unfold maxLen at hlm hrl
 clear hh hr hlr
 have kgr := fun W h => pf_r9_Great _ a0 W (hp9.le (W := W) h) hf
 obtain ⟨W1, hW1, hb1, k1⟩ := newb w (.cells #[.slice HA a0.hs.length hc, .int .i64 a0.tl, .int .i64 a0.th, .int .i64 a0.al, .int .i64 a0.ah, .slice RA a0.rds.length rc] 25)
 obtain ⟨c0, c1, c2, c3, c4, c5⟩ := pc6 k1
 have ⟨hp9', hf', hvl', hfl', hb1', k1', kgr'⟩ := hyd7 hp9 hf hvl hfl hb1 k1 kgr
 clear kgr k1 hb1 hfl hvl hf hp9
 go_enter Try.func4, Try.ntmps4
 go_wp2_with (fail)
 clear hW1
 go_at_call 10
 refine (kgr'.out W1 hb1'.out).mono ?_
 rintro e W2 ⟨b, rfl, hb2, hgr⟩
 have hbw2 := bel_set hb1'.out hb2
 have k12 := blk hb2 k1'.out
 clear c0 c1 c2 c3 c4 c5
 obtain ⟨c0, c1, c2, c3, c4, c5⟩ := pc6 k12
 have ⟨hb2', hbw2', k12', hgr'⟩ := hyd4 hb2 hbw2 k12 hgr
 clear hgr k12 hbw2 hb2
 cases b with
 | true =>
  go_wp2
  go_ret
  exact ⟨rfl, hbw2'.out⟩
 | false =>
  obtain ⟨g6, g70, gl⟩ := hgr'.out rfl
  by_cases h20 : 20 < a0.rds.length
  ·have h20i : (20 : Int) < (a0.rds.length : Int) := by omega
   have gl' := hyd1 gl
   clear gl
   go_wp2
   go_ret
   exact ⟨rfl, hbw2'.out⟩
  have h20n : a0.rds.length ≤ 20 := by omega
  have h20i : ¬ (20 : Int) < (a0.rds.length : Int) := by omega
  by_cases h70 : 70 < a1.length
  ·have h70i : (70 : Int) < (a1.length : Int) := by omega
   have gl' := hyd1 gl
   clear gl
   go_wp2
   go_ret
   exact ⟨rfl, hbw2'.out⟩
  have h70n : a1.length ≤ 70 := by omega
  have h70i : ¬ (70 : Int) < (a1.length : Int) := by omega
  have hst : a0.steps ≤ 24 := by
   unfold Pic.steps
   rw [List.getD_eq_getElem?_getD]
   cases e : a0.hs[0]? with
   | none => exact Nat.zero_le _
   | some h => exact (gl h (List.mem_of_getElem? e)).1
  have gl' := hyd1 gl
  clear gl
  go_wp2_with (fail)
  go_at_call 11
  refine (pf_r9_Twin _ a0 W2 (hp9'.out.le hbw2'.out) (by omega) (by omega) (fun h hm => by have := gl'.out h hm; omega)).mono ?_
  rintro e W3 ⟨vo, rfl, hb3, ho⟩
  obtain ⟨oh, or, rfl, oh1, or1⟩ := id ho
  obtain ⟨OA, oc, rfl, -⟩ := oh1.slice
  obtain ⟨QA, qc, rfl, -⟩ := or1.slice
  clear oh1 or1 c0 c1 c2 c3 c4 c5
  obtain ⟨W4, hW4, hb4, k4⟩ := newb W3 (.cells #[.slice OA a0.hs.length oc, .int .i64 a0.tl, .int .i64 a0.th, .int .i64 a0.al, .int .i64 a0.ah, .slice QA a0.rds.length qc] 25)
  have hbw3 := bel_set hbw2'.out hb3
  have hbw4 := bel_set hbw3 hb4
  have k04 := blk hb4 (blk hb3 k12'.out)
  have ho4 := ho.le hb4
  obtain ⟨c0, c1, c2, c3, c4, c5⟩ := pc6 k4
  have ⟨hb3', ho', hb4', k4', hbw3', hbw4', k04', ho4'⟩ := hyd8 hb3 ho hb4 k4 hbw3 hbw4 k04 ho4
  clear ho4 k04 hbw4 hbw3 k4 hb4 ho hb3
  go_wp2_with (fail)
  clear hW4
  generalize hP2 : W3.heap.size = P2 at *
  have hP2' := hyd1 hP2
  clear hP2
  obtain ⟨E, hE⟩ : ∃ E, confE a0 = E := ⟨_, rfl⟩
  obtain ⟨L, hL⟩ : ∃ L, confL a0 = L := ⟨_, rfl⟩
  have kcp := pf_rd_Conflict _ a0 W4 ho4'.out hf'.out hst
  rw [hE, hL] at kcp
  have kcp' := hyd1 kcp
  clear kcp
  go_at_call 19
  refine kcp'.out.mono ?_
  rintro e W5 ⟨va, rfl, hb5, hia⟩
  have hbw5 := bel_set hbw4'.out hb5
  have k05 := blk hb5 k04'.out
  clear c0 c1 c2 c3 c4 c5
  obtain ⟨c0, c1, c2, c3, c4, c5⟩ := pc6 k05
  have kcr := pf_r9_Conflict _ a0 W5 (hp9'.out.le hbw5) hf'.out hst
  rw [hE, hL] at kcr
  have ⟨hb5', hia', hbw5', k05', kcr'⟩ := hyd5 hb5 hia hbw5 k05 kcr
  clear kcr k05 hbw5 hia hb5
  go_wp2_with (fail)
  go_at_call 20
  refine kcr'.out.mono ?_
  rintro e W6 ⟨vb, rfl, hb6, hib⟩
  have hbw6 := bel_set hbw5'.out hb6
  have hb46 := bel_set hb5'.out hb6
  have k06 := blk hb6 k05'.out
  have k46 := blk hb46 k4'.out
  have hia6 := hia'.out.below hb6
  have ho6 := ho4'.out.le hb46
  have hp6 := hp9'.out.le hbw6
  have hvl6 := hvl'.out.below hbw6
  obtain ⟨A1, n1, rfl, -⟩ := id hia6
  obtain ⟨A2, n2, rfl, -⟩ := id hib
  clear c0 c1 c2 c3 c4 c5
  obtain ⟨CE, hCE⟩ : ∃ E, ccE a0 a1 = E := ⟨_, rfl⟩
  have kxp := fun W (h : Below W6.heap.size W6 W) => pf_rd_CheckConflict _ _ a0 a1 W (ho6.le h) hf'.out hst (hvl6.below h) h70n hfl'.out
  have kxr := fun W (h : Below W6.heap.size W6 W) => pf_r9_CheckConflict _ _ a0 a1 W (hp6.le h) hf'.out hst (hvl6.below h) h70n hfl'.out
  rw [hCE] at kxp kxr
  have ⟨hb6', hib', hbw6', hb46', k06', k46', hia6', ho6'⟩ := hyd8 hb6 hib hbw6 hb46 k06 k46 hia6 ho6
  have ⟨hp6', hvl6', kxp', kxr', hCE', hE', hL'⟩ := hyd7 hp6 hvl6 kxp kxr hCE hE hL
  clear hL hE hCE kxr kxp hvl6 hp6 ho6 hia6 k46 k06 hb46 hbw6 hib hb6
  go_wp2_with (fail)
--@ARM6
  refine wp_region_monoL (R := leRel) 22 [some 35, some 36, some 37, some 38, some 39, some 40, some 41, some 42, some 43, some 44, some 45, some 46, some 47, some 48, some 49, some 50, some 51, some 52, some 53, some 54, some 55, some 56, some 4] [[], [], [0, 1], [2], [3], [3], [3, 4, 5], [3, 6], [7], [8], [8], [8, 9, 10], [8], [8], [8, 12, 13], [8, 11, 14], [8, 15], [16], [17], [17], [17, 18, 19], [17, 20], [21]]
   [.eq (.slice A1 L.length n1), .eq (.slice A2 L.length n2), .eq (.bool true), .eq (.bool true), .eq (.int .i64 E), .eq (.int .i64 E), .eq (.bool true), .eq (.bool true), .eq (.bool true), .eq (.agg #[.slice OA a0.hs.length oc, .int .i64 a0.tl, .int .i64 a0.th, .int .i64 a0.al, .int .i64 a0.ah, .slice QA a0.rds.length qc]), .eq (.slice LA a1.length lc), .eq (.int .i64 CE), .eq (.agg #[.slice HA a0.hs.length hc, .int .i64 a0.tl, .int .i64 a0.th, .int .i64 a0.al, .int .i64 a0.ah, .slice RA a0.rds.length rc]), .eq (.slice LA a1.length lc), .eq (.int .i64 CE), .eq (.bool true), .eq (.bool true), .eq (.bool true), .eq (.agg #[.slice OA a0.hs.length oc, .int .i64 a0.tl, .int .i64 a0.th, .int .i64 a0.al, .int .i64 a0.ah, .slice QA a0.rds.length qc]), .eq (.agg #[.slice HA a0.hs.length hc, .int .i64 a0.tl, .int .i64 a0.th, .int .i64 a0.al, .int .i64 a0.ah, .slice RA a0.rds.length rc]), .eq (.bool true), .eq (.bool true)] (fun _ _ => False) (by kernel_rfl) (by kernel_rfl) (by kernel_rfl) (by kernel_rfl) ?_ (fun _ _ _ _ _ h => h.elim) ?_
  ·simp only [List.take_succ_cons, List.take_zero]
   refine mSc ?_ (mSc ?_ (mSc ?_ (mSc ?_ (mSc ?_ (mSc ?_ (mSc ?_ (mSc ?_ (mSc ?_ (mSc ?_ (mSc ?_ (mSc ?_ (mSc ?_ (mSc ?_ (mSc ?_ (mSc ?_ (mSc ?_ (mSc ?_ (mSc ?_ (mSc ?_ (mSc ?_ (mSc ?_ (monoSteps_nil))))))))))))))))))))))
   ·refine mSl rfl fun x' W hR hf Q hK' _ => ?_
    simp only [fA] at hK' ⊢
    go_wp2
    exact hK' _ _ lrR rfl
   ·refine mSl rfl fun x' W hR hf Q hK' _ => ?_
    simp only [fA] at hK' ⊢
    go_wp2
    exact hK' _ _ lrR rfl
   ·refine mSl rfl fun x' W hR hf Q hK' _ => ?_
    obtain ⟨e0, e1, -⟩ := hf
    change _ = _ at e0 e1
    simp only [fA, e0, e1] at hK' ⊢
    have hcall := pf_l9_same _ _ L L W (hia6'.out.below hR) (hib'.out.below hR)
    have hcall' := hyd1 hcall
    clear hcall
    go_wp2_with (fail)
    go_at_call 17
    refine hcall'.out.mono ?_
    rintro e w' ⟨rfl, n, rfl⟩
    rw [show (L == L) = true by simp]
    go_wp2
    exact hK' _ _ (Below.of_drewN W n) rfl
   ·refine mSl rfl fun x' W hR hf Q hK' _ => ?_
    obtain ⟨e0, -⟩ := hf
    change _ = _ at e0
    simp only [fA, e0] at hK' ⊢
    go_wp2
    exact hK' _ _ lrR rfl
   ·refine monoStep_listG (fun x' W hf => ?_) fun x' W hR hf Q hK' _ => ?_
    ·obtain ⟨e0, -⟩ := hf
     change _ = _ at e0
     simp only [fA, e0]
     kernel_rfl
    obtain ⟨e0, -⟩ := hf
    change _ = _ at e0
    simp only [fA, e0] at hK' ⊢
    go_wp2
    exact hK' _ _ lrR rfl
   ·refine monoStep_listG (fun x' W hf => ?_) fun x' W hR hf Q hK' _ => ?_
    ·obtain ⟨e0, -⟩ := hf
     change _ = _ at e0
     simp only [fA, e0]
     kernel_rfl
    obtain ⟨e0, -⟩ := hf
    change _ = _ at e0
    simp only [fA, e0] at hK' ⊢
    go_wp2
    exact hK' _ _ lrR rfl
   ·refine monoStep_listG (fun x' W hf => ?_) fun x' W hR hf Q hK' _ => ?_
    ·obtain ⟨e0, e1, e2, -⟩ := hf
     change _ = _ at e0 e1 e2
     simp only [fA, e0, e1, e2]
     kernel_rfl
    obtain ⟨e0, e1, e2, -⟩ := hf
    change _ = _ at e0 e1 e2
    simp only [fA, e0, e1, e2] at hK' ⊢
    go_wp2
    exact hK' _ _ lrR rfl
   ·refine mSl rfl fun x' W hR hf Q hK' _ => ?_
    obtain ⟨e0, e1, -⟩ := hf
    change _ = _ at e0 e1
    simp only [fA, e0, e1] at hK' ⊢
    go_wp2
    exact hK' _ _ lrR rfl
   ·refine mSl rfl fun x' W hR hf Q hK' _ => ?_
    obtain ⟨e0, -⟩ := hf
    change _ = _ at e0
    simp only [fA, e0] at hK' ⊢
    go_wp2
    exact hK' _ _ lrR rfl
   ·refine monoStep_listG (fun x' W hf => ?_) fun x' W hR hf Q hK' _ => ?_
    ·obtain ⟨e0, -⟩ := hf
     change _ = _ at e0
     simp only [fA, e0]
     kernel_rfl
    obtain ⟨e0, -⟩ := hf
    change _ = _ at e0
    obtain ⟨c0, c1, c2, c3, c4, c5⟩ := pc6 (blk hR k46'.out)
    simp only [fA, e0] at hK' ⊢
    go_wp2
    exact hK' _ _ lrR rfl
   ·refine monoStep_listG (fun x' W hf => ?_) fun x' W hR hf Q hK' _ => ?_
    ·obtain ⟨e0, -⟩ := hf
     change _ = _ at e0
     simp only [fA, e0]
     kernel_rfl
    obtain ⟨e0, -⟩ := hf
    change _ = _ at e0
    simp only [fA, e0] at hK' ⊢
    go_wp2
    exact hK' _ _ lrR rfl
   ·refine monoStep_listG (fun x' W hf => ?_) fun x' W hR hf Q hK' _ => ?_
    ·obtain ⟨e0, e1, e2, -⟩ := hf
     change _ = _ at e0 e1 e2
     simp only [fA, e0, e1, e2]
     kernel_rfl
    obtain ⟨e0, e1, e2, -⟩ := hf
    change _ = _ at e0 e1 e2
    simp only [fA, e0, e1, e2] at hK' ⊢
    have hcall := kxp'.out W hR
    have hcall' := hyd1 hcall
    clear hcall
    go_wp2_with (fail)
    go_at_call 21
    refine hcall'.out.mono ?_
    rintro e w' ⟨rfl, y1⟩
    go_wp2
    exact hK' _ _ y1 rfl
   ·refine monoStep_listG (fun x' W hf => ?_) fun x' W hR hf Q hK' _ => ?_
    ·obtain ⟨e0, -⟩ := hf
     change _ = _ at e0
     simp only [fA, e0]
     kernel_rfl
    obtain ⟨e0, -⟩ := hf
    change _ = _ at e0
    obtain ⟨c0, c1, c2, c3, c4, c5⟩ := pc6 (blk hR k06'.out)
    simp only [fA, e0] at hK' ⊢
    go_wp2
    exact hK' _ _ lrR rfl
   ·refine monoStep_listG (fun x' W hf => ?_) fun x' W hR hf Q hK' _ => ?_
    ·obtain ⟨e0, -⟩ := hf
     change _ = _ at e0
     simp only [fA, e0]
     kernel_rfl
    obtain ⟨e0, -⟩ := hf
    change _ = _ at e0
    simp only [fA, e0] at hK' ⊢
    go_wp2
    exact hK' _ _ lrR rfl
   ·refine monoStep_listG (fun x' W hf => ?_) fun x' W hR hf Q hK' _ => ?_
    ·obtain ⟨e0, e1, e2, -⟩ := hf
     change _ = _ at e0 e1 e2
     simp only [fA, e0, e1, e2]
     kernel_rfl
    obtain ⟨e0, e1, e2, -⟩ := hf
    change _ = _ at e0 e1 e2
    simp only [fA, e0, e1, e2] at hK' ⊢
    have hcall := kxr'.out W hR
    have hcall' := hyd1 hcall
    clear hcall
    go_wp2_with (fail)
    go_at_call 22
    refine hcall'.out.mono ?_
    rintro e w' ⟨rfl, y1⟩
    go_wp2
    exact hK' _ _ y1 rfl
   ·refine monoStep_listG (fun x' W hf => ?_) fun x' W hR hf Q hK' _ => ?_
    ·obtain ⟨e0, e1, e2, -⟩ := hf
     change _ = _ at e0 e1 e2
     simp only [fA, e0, e1, e2]
     kernel_rfl
    obtain ⟨e0, e1, e2, -⟩ := hf
    change _ = _ at e0 e1 e2
    simp only [fA, e0, e1, e2] at hK' ⊢
    go_wp2
    exact hK' _ _ lrR rfl
   ·refine mSl rfl fun x' W hR hf Q hK' _ => ?_
    obtain ⟨e0, e1, -⟩ := hf
    change _ = _ at e0 e1
    simp only [fA, e0, e1] at hK' ⊢
    go_wp2
    exact hK' _ _ lrR rfl
   ·refine mSl rfl fun x' W hR hf Q hK' _ => ?_
    obtain ⟨e0, -⟩ := hf
    change _ = _ at e0
    simp only [fA, e0] at hK' ⊢
    go_wp2
    exact hK' _ _ lrR rfl
   ·refine monoStep_listG (fun x' W hf => ?_) fun x' W hR hf Q hK' _ => ?_
    ·obtain ⟨e0, -⟩ := hf
     change _ = _ at e0
     simp only [fA, e0]
     kernel_rfl
    obtain ⟨e0, -⟩ := hf
    change _ = _ at e0
    obtain ⟨c0, c1, c2, c3, c4, c5⟩ := pc6 (blk hR k46'.out)
    simp only [fA, e0] at hK' ⊢
    go_wp2
    exact hK' _ _ lrR rfl
   ·refine monoStep_listG (fun x' W hf => ?_) fun x' W hR hf Q hK' _ => ?_
    ·obtain ⟨e0, -⟩ := hf
     change _ = _ at e0
     simp only [fA, e0]
     kernel_rfl
    obtain ⟨e0, -⟩ := hf
    change _ = _ at e0
    obtain ⟨c0, c1, c2, c3, c4, c5⟩ := pc6 (blk hR k06'.out)
    simp only [fA, e0] at hK' ⊢
    go_wp2
    exact hK' _ _ lrR rfl
   ·refine monoStep_listG (fun x' W hf => ?_) fun x' W hR hf Q hK' _ => ?_
    ·obtain ⟨e0, e1, e2, -⟩ := hf
     change _ = _ at e0 e1 e2
     simp only [fA, e0, e1, e2]
     kernel_rfl
    obtain ⟨e0, e1, e2, -⟩ := hf
    change _ = _ at e0 e1 e2
    simp only [fA, e0, e1, e2] at hK' ⊢
    have hcall := pf_r9_SamePicture _ _ a0 a0 W (ho6'.out.le hR) (hp6'.out.le hR)
    have hcall' := hyd1 hcall
    clear hcall
    go_wp2_with (fail)
    go_at_call 18
    refine hcall'.out.mono ?_
    rintro e w' ⟨b, rfl, hbt, y1⟩
    obtain rfl : b = true := hbt.2 (by first | trivial | rfl)
    go_wp2
    exact hK' _ _ y1 rfl
   ·refine mSl rfl fun x' W hR hf Q hK' _ => ?_
    obtain ⟨e0, e1, -⟩ := hf
    change _ = _ at e0 e1
    simp only [fA, e0, e1] at hK' ⊢
    go_wp2
    exact hK' _ _ lrR rfl
  ·intro x' W hR hf Q' hQ1 _
   have e21 := hf 21 (by decide)
   change _ = _ at e21
   simp only [List.drop_succ_cons, List.drop_zero]
   rw [show List.range 22 = [0, 1, 2, 3, 4, 5, 6, 7, 8, 9, 10, 11, 12, 13, 14, 15, 16, 17, 18, 19, 20, 21] from rfl]
   simp only [fA, e21]
   clear hf
   have hbf := bel_set hbw6'.out hR
   have ⟨hbf', hR'⟩ := hyd2 hbf hR
   clear hR hbf
   go_wp2
   refine hQ1 _ _ ?_
   clear hQ1
   go_wp2
   go_ret
   exact ⟨rfl, hbf'.out⟩
--@END6
end Go.Proofs.Ytkblockodaiigaa
