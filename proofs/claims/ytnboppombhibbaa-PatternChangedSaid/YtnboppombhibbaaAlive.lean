/- The chapter's examples: alive. -/
import Derived.Test.YtnboppombhibbaaSym
import Derived.Test.YtnboppombhibbaaP4Kind
import Derived.Test.YtnboppombhibbaaP4Gap
import Derived.Test.YtnboppombhibbaaL4Small
namespace Go.Proofs.Ytnboppombhibbaa
open Go.RowKit Go.Shelf Go.Sort Go.Lib
set_option linter.unusedVariables false
set_option linter.unusedSimpArgs false
def flamesP : Prog := ⟨[0, 3, 0, 0, 3, 0], [0], 100, 2, 10, [1]⟩
def barleyP : Prog := ⟨[0, 1, 2, 1], [0], 0, 1, 0, [0, 2]⟩
def flamesS : List Mv := [⟨0, 0, false, false⟩, ⟨0, 2, true, true⟩, ⟨1, 0, true, true⟩, ⟨1, 1, false, false⟩, ⟨2, 1, true, true⟩, ⟨2, 2, false, false⟩]
theorem flames_E : progE flamesP = 0 := by kernel_rfl
theorem barley_E : progE barleyP = 0 := by kernel_rfl
theorem flames_sym : symL flamesP = flamesS := by kernel_rfl
theorem flames_close : (onOkI 0 (closeN flamesP) : Int) = 3 := by kernel_rfl
theorem flames_cutE : cutE flamesP 1 = 0 := by kernel_rfl
theorem flames_cut : onOk 0 (cutL flamesP 1) = [110, 110, 116, 110, 110, 116] := by kernel_rfl
theorem flames_gap : (onOkI 0 (gapI flamesP) : Int) = 4 := by kernel_rfl
theorem barley_motif : (onOkI 0 (motifN barleyP) : Int) = 2 := by kernel_rfl
theorem barley_turn : (onOkI 0 (turnI barleyP) : Int) = 2 := by kernel_rfl
theorem barley_kind : (onOkI 0 (kindI barleyP) : Int) = 5 := by kernel_rfl
theorem lit1 (w : World) (zs : List Int) (e : TypeId) (n : Nat) (hw : w.heap.size = n) (hm : zs.length ≤ maxLen) : Ints (w.alloc (.cells (zs.map vint).toArray e)) (.slice (some ⟨n, 0, none⟩) zs.length zs.length) zs := by subst hw; exact lit_ints w zs e hm
set_option maxHeartbeats 1000000 in
theorem pf_flames (w : World) : Calls Try.prog 75 #[] w fun e w' => ∃ v, e = .returned v ∧ Below w.heap.size w w' ∧ IsProg w' v flamesP := by
  go_enter Try.func75, Try.ntmps75
  go_wp2
  refine bodyPost_ret (v := .agg #[.slice (some ⟨w.heap.size + 1, 0, none⟩) 6 6, .slice (some ⟨w.heap.size + 1 + 1, 0, none⟩) 1 1, .int .i64 100, .int .i64 2, .int .i64 10, .slice (some ⟨w.heap.size + 1 + 1 + 1, 0, none⟩) 1 1]) (by simp [results, Try.results75, go_sem]) rfl ?_
  refine ⟨_, rfl, alc4 _ _ _ _ _, _, _, _, rfl, ?_, ?_, ?_⟩
  · exact (lit1 (w.alloc _) [0, 3, 0, 0, 3, 0] 3 (w.heap.size + 1) (by simp) (by simp [maxLen])).below (alc2 _ _ _)
  · exact (lit1 ((w.alloc _).alloc _) [0] 3 (w.heap.size + 1 + 1) (by simp) (by simp [maxLen])).below (alc1 _ _)
  · exact lit1 (((w.alloc _).alloc _).alloc _) [1] 3 (w.heap.size + 1 + 1 + 1) (by simp) (by simp [maxLen])
set_option maxHeartbeats 1000000 in
theorem pf_barley (vs : Value) (w : World) (hs : Ints w vs [0, 2]) : Calls Try.prog 76 #[vs] w fun e w' => ∃ v, e = .returned v ∧ Below w.heap.size w w' ∧ IsProg w' v barleyP := by
  have hs0 := Lib.hid hs
  obtain ⟨A, c, rfl, _, _, _, _⟩ := hs
  go_enter Try.func76, Try.ntmps76
  go_wp2
  refine bodyPost_ret (v := .agg #[.slice (some ⟨w.heap.size + 1, 0, none⟩) 4 4, .slice (some ⟨w.heap.size + 1 + 1, 0, none⟩) 1 1, .int .i64 0, .int .i64 1, .int .i64 0, .slice A 2 c]) (by simp [results, Try.results76, go_sem]) rfl ?_
  refine ⟨_, rfl, alc3 _ _ _ _, _, _, _, rfl, ?_, ?_, ?_⟩
  · exact (lit1 (w.alloc _) [0, 1, 2, 1] 3 (w.heap.size + 1) (by simp) (by simp [maxLen])).below (alc1 _ _)
  · exact lit1 ((w.alloc _).alloc _) [0] 3 (w.heap.size + 1 + 1) (by simp) (by simp [maxLen])
  · exact hs0.out.below (alc3 _ _ _ _)
theorem same_lit (v v' : Value) (xs : List Int) (w : World) (hx : Ints w v xs) (hy : Ints w v' xs) :
    Calls Try.prog 24 #[v, v'] w fun e w' => e = .returned (.bool true) ∧ ∃ n, w' = w.drewN n := by
  have h := pf_l4_same v v' xs xs w hx hy
  rwa [show (xs == xs) = true by simp] at h
theorem moves_lit (v v' : Value) (xs : List Mv) (w : World) (hx : Mvs w v xs) (hy : Mvs w v' xs) :
    Calls Try.prog 77 #[v, v'] w fun e w' => e = .returned (.bool true) ∧ ∃ n, w' = w.drewN n := by
  have h := pf_SameMoves v v' xs xs w hx hy
  rwa [show (xs == xs) = true by simp] at h
set_option maxRecDepth 100000 in
set_option maxHeartbeats 2000000 in
theorem pf_alive (w : World) : Calls Try.prog 37 #[] w fun e w' => e = .returned (.bool true) ∧ Below w.heap.size w w' := by
  have kcut : ∀ W V, IsProg W V flamesP → Calls Try.prog 20 #[V, .int .i64 1] W fun e w' => ∃ v', e = .returned (.tuple #[v', .int .i64 0]) ∧ Below W.heap.size W w' ∧ Ints w' v' [110, 110, 116, 110, 110, 116] := fun W V h => (pf_pat_Cut V flamesP 1 W h 0 flames_cutE).mono fun e w' ⟨v', h1, h2, h3⟩ => ⟨v', h1, h2, by rw [flames_cut] at h3; exact own_ints h3⟩
  have kclose : ∀ W V, IsProg W V flamesP → Calls Try.prog 29 #[V] W fun e w' => e = .returned (.tuple #[.int .i64 3, .int .i64 0]) ∧ Below W.heap.size W w' := fun W V h => by have h2 := pf_pat_Closes V flamesP W h 0 flames_E; rwa [flames_close] at h2
  have kmotif : ∀ W V, IsProg W V barleyP → Calls Try.prog 31 #[V] W fun e w' => e = .returned (.tuple #[.int .i64 2, .int .i64 2, .int .i64 0]) ∧ Below W.heap.size W w' := fun W V h => by have h2 := pf_pat_Motif V barleyP W h 0 barley_E; rwa [barley_motif, barley_turn] at h2
  have kkind : ∀ W V, IsProg W V barleyP → Calls Try.prog 33 #[V] W fun e w' => e = .returned (.tuple #[.int .u8 5, .int .i64 0]) ∧ Below W.heap.size W w' := fun W V h => by have h2 := pf_pat_Kind V barleyP W h 0 barley_E; rwa [barley_kind] at h2
  have kgap : ∀ W V, IsProg W V flamesP → Calls Try.prog 35 #[V] W fun e w' => e = .returned (.tuple #[.int .i64 4, .int .i64 0]) ∧ Below W.heap.size W w' := fun W V h => by have h2 := pf_pat_Gap V flamesP W h 0 flames_E; rwa [flames_gap] at h2
  have ksym : ∀ W V, IsProg W V flamesP → Calls Try.prog 41 #[V] W fun e w' => ∃ v', e = .returned (.tuple #[v', .int .i64 0]) ∧ Below W.heap.size W w' ∧ Mvs w' v' flamesS := fun W V h => (pf_pat_Symmetries V flamesP W h 0 flames_E).mono fun e w' ⟨v', h1, h2, h3⟩ => ⟨v', h1, h2, by rw [flames_sym] at h3; exact Mvs.of_own h3 (by decide)⟩
  have kcut' := Lib.hid kcut
  have kclose' := Lib.hid kclose
  have kmotif' := Lib.hid kmotif
  have kkind' := Lib.hid kkind
  have kgap' := Lib.hid kgap
  have ksym' := Lib.hid ksym
  clear ksym kgap kkind kmotif kclose kcut
  go_enter Try.func37, Try.ntmps37
  have hB := Below.refl w.heap.size w
  go_upto_region 2 with (first | (go_at_call 75; refine (pf_flames _).mono ?_; rintro e w1 ⟨vf, rfl, hb, hp1⟩; have hp' := Lib.hid hp1; have hB1 := Below.tr hB hb;  clear hb hB hp1) | (go_at_call 20; refine (kcut'.out _ _ hp'.out).mono ?_; rintro e w2 ⟨va, rfl, hb, ha⟩; have hB := Below.tr hB1 hb; have ha' := Lib.hid ha; clear hb ha hB1 hp'))
  go_upto_region 3 with (first | (go_at_call 75; refine (pf_flames _).mono ?_; rintro e w1 ⟨vf, rfl, hb, hp1⟩; have hp' := Lib.hid hp1; have hB1 := Below.tr hB hb; have ha' := Lib.hid (ha'.out.below hb); clear hb hB hp1) | (go_at_call 29; refine (kclose'.out _ _ hp'.out).mono ?_; rintro e w2 ⟨rfl, hb⟩; have hB := Below.tr hB1 hb; have ha' := Lib.hid (ha'.out.below hb); clear hb hB1 hp'))
  go_upto_region 4 with (first | (go_at_call 76; refine (pf_barley _ _ (lit1 _ [0, 2] 3 _ rfl (by simp [maxLen]))).mono ?_; rintro e w1 ⟨vf, rfl, hb, hp1⟩; have hb := (alc1 _ _).trans (hb.mono (by simp)); have hp' := Lib.hid hp1; have hB1 := Below.tr hB hb; have ha' := Lib.hid (ha'.out.below hb); clear hb hB hp1) | (go_at_call 31; refine (kmotif'.out _ _ hp'.out).mono ?_; rintro e w2 ⟨rfl, hb⟩; have hB := Below.tr hB1 hb; have ha' := Lib.hid (ha'.out.below hb); clear hb hB1 hp'))
  go_upto_region 5 with (first | (go_at_call 76; refine (pf_barley _ _ (lit1 _ [0, 2] 3 _ rfl (by simp [maxLen]))).mono ?_; rintro e w1 ⟨vf, rfl, hb, hp1⟩; have hb := (alc1 _ _).trans (hb.mono (by simp)); have hp' := Lib.hid hp1; have hB1 := Below.tr hB hb; have ha' := Lib.hid (ha'.out.below hb); clear hb hB hp1) | (go_at_call 33; refine (kkind'.out _ _ hp'.out).mono ?_; rintro e w2 ⟨rfl, hb⟩; have hB := Below.tr hB1 hb; have ha' := Lib.hid (ha'.out.below hb); clear hb hB1 hp'))
  go_upto_region 6 with (first | (go_at_call 75; refine (pf_flames _).mono ?_; rintro e w1 ⟨vf, rfl, hb, hp1⟩; have hp' := Lib.hid hp1; have hB1 := Below.tr hB hb; have ha' := Lib.hid (ha'.out.below hb); clear hb hB hp1) | (go_at_call 35; refine (kgap'.out _ _ hp'.out).mono ?_; rintro e w2 ⟨rfl, hb⟩; have hB := Below.tr hB1 hb; have ha' := Lib.hid (ha'.out.below hb); clear hb hB1 hp'))
  go_upto_region 7 with (first | (go_at_call 75; refine (pf_flames _).mono ?_; rintro e w1 ⟨vf, rfl, hb, hp1⟩; have hp' := Lib.hid hp1; have hB1 := Below.tr hB hb; have ha' := Lib.hid (ha'.out.below hb); clear hb hB hp1) | (go_at_call 41; refine (ksym'.out _ _ hp'.out).mono ?_; rintro e w2 ⟨vm, rfl, hb, hm⟩; have hB := Below.tr hB1 hb; have hm' := Lib.hid hm; have ha' := Lib.hid (ha'.out.below hb); clear hb hB1 hp' hm))
  go_upto_region 8 with (fail)
  go_wp2_with (first | (go_at_call 24; refine (same_lit _ _ [110, 110, 116, 110, 110, 116] _ (ha'.out.below (alc2 _ _ _)) (lit1 _ [110, 110, 116, 110, 110, 116] 3 _ (by simp) (by simp [maxLen]))).mono ?_; rintro e w3 ⟨rfl, nd, rfl⟩) | (go_at_call 77; refine (moves_lit _ _ flamesS _ (hm'.out.below (below_drewN' (alc2 _ _ _) _)) ((lit_moves w2 flamesS _ rfl 68 (by decide)).below (below_drewN' (alc1 _ _) _))).mono ?_; rintro e w3 ⟨rfl, nd2, rfl⟩))
  go_ret
  exact ⟨rfl, below_drewN' (hB.trans ((alc2 _ _ _).mono hB.size)) _⟩
end Go.Proofs.Ytnboppombhibbaa
