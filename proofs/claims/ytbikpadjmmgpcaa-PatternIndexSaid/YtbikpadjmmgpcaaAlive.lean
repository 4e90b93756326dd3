/- Kinds: the program's and the reference's. The chapter's examples: alive. -/
import Derived.Test.YtbikpadjmmgpcaaP4Tells
import Derived.Test.YtbikpadjmmgpcaaSym
import Derived.Test.YtbikpadjmmgpcaaOffset
namespace Go.Proofs.Ytbikpadjmmgpcaa
open Go.RowKit
set_option linter.unusedVariables false
set_option linter.unusedSimpArgs false
/-- How many of the first k shifts are, modulo the period, not zero. -/
def movedC (p : Prog) (k : Nat) : Nat := (p.shifts.take k).countP fun s => decide (s % (per p : Int) ≠ 0)
def stillC (p : Prog) (k : Nat) : Nat := (p.shifts.take k).countP fun s => decide (s % (per p : Int) = 0)
def kindV (N m t c : Nat) : Int := if N = 1 then 1 else if m = 1 then (if t = 0 then 2 else if 2 * t = N then 3 else 4) else if 2 * t = N ∧ c = 1 then 5 else 6
def kindI (p : Prog) : Int := kindV (per p) (motifN p) (turnI p).toNat (movedC p (motifN p))
theorem count_both (p : Prog) (k : Nat) (h : k ≤ p.shifts.length) : stillC p k + movedC p k = k := by
  unfold stillC movedC
  have := List.length_eq_countP_add_countP (fun s : Int => decide (s % (per p : Int) = 0)) (l := p.shifts.take k)
  rw [List.length_take, Nat.min_eq_left h] at this
  have e : (fun s : Int => decide (s % (per p : Int) ≠ 0)) = fun a : Int => decide ¬decide (a % (per p : Int) = 0) = true := by funext s; by_cases hs : s % (per p : Int) = 0 <;> simp [hs]
  rw [e]
  omega
theorem stillC_succ (p : Prog) (k : Nat) (h : k < p.shifts.length) : stillC p (k + 1) = stillC p k + if p.shifts[k] % (per p : Int) = 0 then 1 else 0 := by
  unfold stillC
  rw [List.take_succ_eq_append_getElem h, List.countP_append]
  simp [List.countP_cons]
theorem movedC_succ (p : Prog) (k : Nat) (h : k < p.shifts.length) : movedC p (k + 1) = movedC p k + if p.shifts[k] % (per p : Int) = 0 then 0 else 1 := by
  unfold movedC
  rw [List.take_succ_eq_append_getElem h, List.countP_append]
  by_cases hs : p.shifts[k] % (per p : Int) = 0 <;> simp [List.countP_cons, hs]
set_option maxRecDepth 100000 in
set_option maxHeartbeats 4000000 in
theorem pf_pat_Kind_ok (v : Value) (p : Prog) (w : World) (hv : IsProg w v p) (hE : progE p = 0) :
    Calls Try.prog 14 #[v] w fun e w' => e = .returned (.tuple #[.int .u8 (kindI p), .int .i64 0]) ∧ Below w.heap.size w w' := by
  have hv0 := Lib.hid hv
  obtain ⟨v0, v1, v5, rfl, h0, h1, h5⟩ := hv
  have h5' := Lib.hid h5
  obtain ⟨A5, c5, rfl, hc5, hm5, _, _⟩ := id h5
  unfold maxLen at hm5
  clear h0 h1 h5
  have hp := benchFacts hE
  have hs1 := hp.sh1
  have hpp := per_pos hp
  have hr1 := hp.ros1
  have hN0 := hpp.1
  have hN1 : per p ≤ 96 := by omega
  have hmt := motif_le hp
  have htb := turn_bound hp
  obtain ⟨t, ht⟩ : ∃ t : Nat, turnI p = (t : Int) := ⟨(turnI p).toNat, by omega⟩
  rw [ht] at htb
  have hk : kindI p = kindV (per p) (motifN p) t (movedC p (motifN p)) := by unfold kindI; rw [ht, Int.toNat_natCast]
  have hmot : ∀ W b, IsBench W b p → Calls Try.prog 37 #[.pointer (some ⟨b, 0, none⟩)] W fun e w' => e = .returned (.tuple #[.int .i64 (motifN p), .int .i64 t]) ∧ ∃ n, w' = W.drewN n := fun W b h => by rw [← ht]; exact pf_motif b p W h hp
  have hcut := fun W => run_cut_h (elemInt : Elem1 Try.prog 22 3 (.int .i64 0) 8) A5 p.shifts.length c5 (motifN p) (by omega) W
  have hcnt := Lib.hid (count_both p (motifN p) hmt.2)
  rw [hk]
  generalize hME : motifN p = m at *
  have hE' := Lib.hid hE
  have hmot' := Lib.hid hmot
  have ht' := Lib.hid ht
  have hk' := Lib.hid hk
  have hME' := Lib.hid hME
  have hpp' := Lib.hid hpp
  clear hpp hME hk ht hmot hE
  go_enter Try.func14, Try.ntmps14
  go_wp2_with (first | (go_at_call 33; ((with_reducible refine (pf_mounted _ p _ (hv0.out.below (alc1 _ _)) 0 hE'.out).mono ?_); rintro e w' ⟨vb, rfl, hb1, -, hok⟩; obtain ⟨b, rfl, hbb, hbench⟩ := hok rfl; have hbox := (Box.start w _).next hb1; have hbench' := Lib.hid hbench; clear hb1 hok hbb hbench)) | (go_at_call 37; ((with_reducible refine (hmot'.out _ b hbench'.out).mono ?_); rintro e w' ⟨rfl, nd, hw⟩; have hbox2 := (show Box w w.heap.size _ w' from hw ▸ hbox.drewN nd); have hbn := (show IsBench w' b p from hw ▸ hbench'.out.drewN nd); clear hw hbench' hbox; obtain ⟨p0, p1, p2, p3, p4, p5⟩ := hbox2.prog; obtain ⟨_, _, -, -, -, -, -, -, -, -, -, c9⟩ := hbn.cells; replace c9 : w'.cell? ⟨b, 9, none⟩ = some (.int .i64 (per p)) := c9; clear hbn p0 p1 p2 p3 p4)))
  have h5w := Lib.hid (h5'.out.below hbox2.below)
  have hbel := Lib.hid hbox2.below
  clear hbox2 hcut
  go_loop [29, 10, 8] (fun i _ s => ∃ k : Nat, k ≤ m ∧ i = .int .i64 k ∧ s = .int .i64 (stillC p k)) (fun i _ _ => m - (intOf i).toNat)
  case atStart => exact ⟨0, Nat.zero_le _, rfl, by simp [stillC]⟩
  case round =>
    obtain ⟨k, hk, rfl, rfl⟩ := hrel
    by_cases hlt : k < m
    · have hkl : k < p.shifts.length := by omega
      obtain ⟨sb, so, hA, hbz, hck⟩ := h5w.out.look hkl
      subst hA
      have hx := hp.sh k hkl
      have hsuc := Lib.hid (stillC_succ p k hkl)
      have hsk : stillC p k ≤ k := by have := count_both p k (by omega); omega
      have hcap : ¬ c5 = 0 := by omega
      generalize p.shifts[k] = x at hck hx hsuc
      have j3 : x.tmod (per p : Int) = x % (per p : Int) := Int.tmod_eq_emod_of_nonneg hx.1
      have k1 : ((per p : Int) == 0) = false := by simp; omega
      by_cases hz0 : x % (per p : Int) = 0
      · have hz : (x % (per p : Int) == 0) = true := by simpa using hz0
        have hss : stillC p (k + 1) = stillC p k + 1 := by rw [hsuc.out, if_pos hz0]
        have hss' := Lib.hid hss
        have hz0' := Lib.hid hz0
        clear hz0 hss
        go_wp2
        go_round
        case rel => exact ⟨k + 1, by omega, by go_num, by rw [hss'.out]; go_num⟩
        case measure => simp [intOf]; omega
      · have hz : (x % (per p : Int) == 0) = false := by simpa using hz0
        have hss : stillC p (k + 1) = stillC p k := by rw [hsuc.out, if_neg hz0]; rfl
        have hss' := Lib.hid hss
        have hz0' := Lib.hid hz0
        clear hz0 hss
        go_wp2
        go_round
        case rel => exact ⟨k + 1, by omega, by go_num, by rw [hss'.out]⟩
        case measure => simp [intOf]; omega
    · obtain rfl : k = m := by omega
      have hcn := hcnt.out
      generalize hCe : movedC p k = c at hcn
      generalize stillC p k = s at hcn ⊢
      have j1 : IntKind.i64.wrap (2 * (t : Int)) = 2 * (t : Int) := IntWalk.i64_in _ (by omega)
      have j2 : IntKind.i64.wrap ((k : Int) - 1) = (k : Int) - 1 := IntWalk.i64_in _ (by omega)
      generalize hNe : per p = N at hN0 hN1 c9 htb
      have hCe' := Lib.hid hCe
      have hNe' := Lib.hid hNe
      clear hNe hCe
      by_cases a1 : N = 1
      · skip
        have b1 : ((N : Int) == 1) = true := beq_iff_eq.2 (by omega)
        have hkv : kindV N k t c = 1 := by unfold kindV; simp [a1]
        have hkv' := Lib.hid hkv
        clear hkv
        clear a1
        go_wp2
        go_ret2
        exact ⟨by rw [hNe'.out, hCe'.out, hkv'.out]; exact rfl, hbel.out⟩
      · skip
        have b1 : ((N : Int) == 1) = false := beq_eq_false_iff_ne.2 (by omega)
        by_cases a2 : k = 1
        · skip
          have b2 : ((k : Int) == 1) = true := beq_iff_eq.2 (by omega)
          by_cases a3 : t = 0
          · skip
            have b3 : ((t : Int) == 0) = true := beq_iff_eq.2 (by omega)
            have hkv : kindV N k t c = 2 := by unfold kindV; simp [a1, a2, a3]
            have hkv' := Lib.hid hkv
            clear hkv
            clear a1 a2 a3
            go_wp2
            go_ret2
            exact ⟨by rw [hNe'.out, hCe'.out, hkv'.out]; exact rfl, hbel.out⟩
          · skip
            have b3 : ((t : Int) == 0) = false := beq_eq_false_iff_ne.2 (by omega)
            by_cases a4 : 2 * t = N
            · skip
              have b4 : (2 * (t : Int) == (N : Int)) = true := beq_iff_eq.2 (by omega)
              have hkv : kindV N k t c = 3 := by unfold kindV; simp [a1, a2, a3, a4]
              have hkv' := Lib.hid hkv
              clear hkv
              clear a1 a2 a3 a4
              go_wp2
              go_ret2
              exact ⟨by rw [hNe'.out, hCe'.out, hkv'.out]; exact rfl, hbel.out⟩
            · skip
              have b4 : (2 * (t : Int) == (N : Int)) = false := beq_eq_false_iff_ne.2 (by omega)
              have hkv : kindV N k t c = 4 := by unfold kindV; simp [a1, a2, a3, a4]
              have hkv' := Lib.hid hkv
              clear hkv
              clear a1 a2 a3 a4
              go_wp2
              go_ret2
              exact ⟨by rw [hNe'.out, hCe'.out, hkv'.out]; exact rfl, hbel.out⟩
        · skip
          have b2 : ((k : Int) == 1) = false := beq_eq_false_iff_ne.2 (by omega)
          by_cases a4 : 2 * t = N
          · skip
            have b4 : (2 * (t : Int) == (N : Int)) = true := beq_iff_eq.2 (by omega)
            by_cases a5 : c = 1
            · skip
              have b5 : ((s : Int) == (k : Int) - 1) = true := beq_iff_eq.2 (by omega)
              have hkv : kindV N k t c = 5 := by unfold kindV; simp [a1, a2, a4, a5]
              have hkv' := Lib.hid hkv
              clear hkv
              clear a1 a2 a4 a5
              go_wp2
              go_ret2
              exact ⟨by rw [hNe'.out, hCe'.out, hkv'.out]; exact rfl, hbel.out⟩
            · skip
              have b5 : ((s : Int) == (k : Int) - 1) = false := beq_eq_false_iff_ne.2 (by omega)
              have hkv : kindV N k t c = 6 := by unfold kindV; simp [a1, a2, a4, a5]
              have hkv' := Lib.hid hkv
              clear hkv
              clear a1 a2 a4 a5
              go_wp2
              go_ret2
              exact ⟨by rw [hNe'.out, hCe'.out, hkv'.out]; exact rfl, hbel.out⟩
          · skip
            have b4 : (2 * (t : Int) == (N : Int)) = false := beq_eq_false_iff_ne.2 (by omega)
            have hkv : kindV N k t c = 6 := by unfold kindV; simp [a1, a2, a4]
            have hkv' := Lib.hid hkv
            clear hkv
            clear a1 a2 a4
            go_wp2
            go_ret2
            exact ⟨by rw [hNe'.out, hCe'.out, hkv'.out]; exact rfl, hbel.out⟩
set_option maxHeartbeats 1000000 in
theorem pf_pat_Kind (v : Value) (p : Prog) (w : World) (hv : IsProg w v p) (E : Int) (hE : progE p = E) :
    Calls Try.prog 14 #[v] w fun e w' => e = .returned (.tuple #[.int .u8 (onOkI E (kindI p)), .int .i64 E]) ∧ Below w.heap.size w w' := by
  by_cases hE0 : E = 0
  · subst hE0
    exact pf_pat_Kind_ok v p w hv hE
  · have hv0 := Lib.hid hv
    obtain ⟨v0, v1, v5, rfl, h0, h1, h5⟩ := hv
    clear h0 h1 h5
    have hne : (E != 0) = true := by simpa using hE0
    rw [onOkI_ne hE0]
    have hE' := Lib.hid hE
    have hE0' := Lib.hid hE0
    clear hE0 hE
    go_enter Try.func14, Try.ntmps14
    go_wp2_with (first | (go_at_call 33; ((with_reducible refine (pf_mounted _ p _ (hv0.out.below (alc1 _ _)) E hE'.out).mono ?_); rintro e w' ⟨vb, rfl, hb1, hn1, -⟩; have hn2 := hn1 hE0'.out; subst hn2; clear hn1)))
    go_ret2
    exact ⟨rfl, ((Box.start w _).next hb1).below⟩
end Go.Proofs.Ytbikpadjmmgpcaa
namespace Go.Proofs.Ytbikpadjmmgpcaa
open Go.RowKit Go.Shelf Go.Sort Go.Lib
set_option linter.unusedVariables false
set_option linter.unusedSimpArgs false
def flamesP : Prog := ⟨[0, 3, 0, 0, 3, 0], [0], 100, 2, 10, [1]⟩
def barleyP : Prog := ⟨[0, 1, 2, 1], [0], 0, 1, 0, [0, 2]⟩
def flamesS : List Mv := [⟨0, 0, false, false⟩, ⟨0, 2, true, true⟩, ⟨1, 0, true, true⟩, ⟨1, 1, false, false⟩, ⟨2, 1, true, true⟩, ⟨2, 2, false, false⟩]
theorem flames_E : progE flamesP = 0 := by kernel_rfl
theorem barley_E : progE barleyP = 0 := by kernel_rfl
theorem flames_sym : symL flamesP = flamesS := by kernel_rfl
theorem flames_close : (onOkI 0 (closeN flamesP) : Int) = 3 := by kernel_rfl
theorem flames_cutE : cutE flamesP 1 = 0 := by kernel_rfl
theorem flames_cut : onOk 0 (cutL flamesP 1) = [110, 110, 116, 110, 110, 116] := by kernel_rfl
theorem flames_gap : (onOkI 0 (gapI flamesP) : Int) = 4 := by kernel_rfl
theorem barley_motif : (onOkI 0 (motifN barleyP) : Int) = 2 := by kernel_rfl
theorem barley_turn : (onOkI 0 (turnI barleyP) : Int) = 2 := by kernel_rfl
theorem barley_kind : (onOkI 0 (kindI barleyP) : Int) = 5 := by kernel_rfl
theorem lit1 (w : World) (zs : List Int) (e : TypeId) (n : Nat) (hw : w.heap.size = n) (hm : zs.length ≤ maxLen) : Ints (w.alloc (.cells (zs.map vint).toArray e)) (.slice (some ⟨n, 0, none⟩) zs.length zs.length) zs := by subst hw; exact lit_ints w zs e hm
set_option maxHeartbeats 1000000 in
theorem pf_flames (w : World) : Calls Try.prog 10 #[] w fun e w' => ∃ v, e = .returned v ∧ Below w.heap.size w w' ∧ IsProg w' v flamesP := by
  go_enter Try.func10, Try.ntmps10
  go_wp2
  refine bodyPost_ret (v := .agg #[.slice (some ⟨w.heap.size + 1, 0, none⟩) 6 6, .slice (some ⟨w.heap.size + 1 + 1, 0, none⟩) 1 1, .int .i64 100, .int .i64 2, .int .i64 10, .slice (some ⟨w.heap.size + 1 + 1 + 1, 0, none⟩) 1 1]) (by simp [results, Try.results10, go_sem]) rfl ?_
  refine ⟨_, rfl, alc4 _ _ _ _ _, _, _, _, rfl, ?_, ?_, ?_⟩
  · exact (lit1 (w.alloc _) [0, 3, 0, 0, 3, 0] 3 (w.heap.size + 1) (by simp) (by simp [maxLen])).below (alc2 _ _ _)
  · exact (lit1 ((w.alloc _).alloc _) [0] 3 (w.heap.size + 1 + 1) (by simp) (by simp [maxLen])).below (alc1 _ _)
  · exact lit1 (((w.alloc _).alloc _).alloc _) [1] 3 (w.heap.size + 1 + 1 + 1) (by simp) (by simp [maxLen])
set_option maxHeartbeats 1000000 in
theorem pf_barley (vs : Value) (w : World) (hs : Ints w vs [0, 2]) : Calls Try.prog 13 #[vs] w fun e w' => ∃ v, e = .returned v ∧ Below w.heap.size w w' ∧ IsProg w' v barleyP := by
  have hs0 := Lib.hid hs
  obtain ⟨A, c, rfl, _, _, _, _⟩ := hs
  go_enter Try.func13, Try.ntmps13
  go_wp2
  refine bodyPost_ret (v := .agg #[.slice (some ⟨w.heap.size + 1, 0, none⟩) 4 4, .slice (some ⟨w.heap.size + 1 + 1, 0, none⟩) 1 1, .int .i64 0, .int .i64 1, .int .i64 0, .slice A 2 c]) (by simp [results, Try.results13, go_sem]) rfl ?_
  refine ⟨_, rfl, alc3 _ _ _ _, _, _, _, rfl, ?_, ?_, ?_⟩
  · exact (lit1 (w.alloc _) [0, 1, 2, 1] 3 (w.heap.size + 1) (by simp) (by simp [maxLen])).below (alc1 _ _)
  · exact lit1 ((w.alloc _).alloc _) [0] 3 (w.heap.size + 1 + 1) (by simp) (by simp [maxLen])
  · exact hs0.out.below (alc3 _ _ _ _)
theorem same_lit (v v' : Value) (xs : List Int) (w : World) (hx : Ints w v xs) (hy : Ints w v' xs) :
    Calls Try.prog 17 #[v, v'] w fun e w' => e = .returned (.bool true) ∧ ∃ n, w' = w.drewN n := by
  have h := pf_l4_same v v' xs xs w hx hy
  rwa [show (xs == xs) = true by simp] at h
theorem moves_lit (v v' : Value) (xs : List Mv) (w : World) (hx : Mvs w v xs) (hy : Mvs w v' xs) :
    Calls Try.prog 18 #[v, v'] w fun e w' => e = .returned (.bool true) ∧ ∃ n, w' = w.drewN n := by
  have h := pf_SameMoves v v' xs xs w hx hy
  rwa [show (xs == xs) = true by simp] at h
set_option maxRecDepth 100000 in
set_option maxHeartbeats 2000000 in
theorem pf_alive (w : World) : Calls Try.prog 4 #[] w fun e w' => e = .returned (.bool true) ∧ Below w.heap.size w w' := by
  have kcut : ∀ W V, IsProg W V flamesP → Calls Try.prog 9 #[V, .int .i64 1] W fun e w' => ∃ v', e = .returned (.tuple #[v', .int .i64 0]) ∧ Below W.heap.size W w' ∧ Ints w' v' [110, 110, 116, 110, 110, 116] := fun W V h => (pf_pat_Cut V flamesP 1 W h 0 flames_cutE).mono fun e w' ⟨v', h1, h2, h3⟩ => ⟨v', h1, h2, by rw [flames_cut] at h3; exact own_ints h3⟩
  have kclose : ∀ W V, IsProg W V flamesP → Calls Try.prog 11 #[V] W fun e w' => e = .returned (.tuple #[.int .i64 3, .int .i64 0]) ∧ Below W.heap.size W w' := fun W V h => by have h2 := pf_pat_Closes V flamesP W h 0 flames_E; rwa [flames_close] at h2
  have kmotif : ∀ W V, IsProg W V barleyP → Calls Try.prog 12 #[V] W fun e w' => e = .returned (.tuple #[.int .i64 2, .int .i64 2, .int .i64 0]) ∧ Below W.heap.size W w' := fun W V h => by have h2 := pf_pat_Motif V barleyP W h 0 barley_E; rwa [barley_motif, barley_turn] at h2
  have kkind : ∀ W V, IsProg W V barleyP → Calls Try.prog 14 #[V] W fun e w' => e = .returned (.tuple #[.int .u8 5, .int .i64 0]) ∧ Below W.heap.size W w' := fun W V h => by have h2 := pf_pat_Kind V barleyP W h 0 barley_E; rwa [barley_kind] at h2
  have kgap : ∀ W V, IsProg W V flamesP → Calls Try.prog 15 #[V] W fun e w' => e = .returned (.tuple #[.int .i64 4, .int .i64 0]) ∧ Below W.heap.size W w' := fun W V h => by have h2 := pf_pat_Gap V flamesP W h 0 flames_E; rwa [flames_gap] at h2
  have ksym : ∀ W V, IsProg W V flamesP → Calls Try.prog 16 #[V] W fun e w' => ∃ v', e = .returned (.tuple #[v', .int .i64 0]) ∧ Below W.heap.size W w' ∧ Mvs w' v' flamesS := fun W V h => (pf_pat_Symmetries V flamesP W h 0 flames_E).mono fun e w' ⟨v', h1, h2, h3⟩ => ⟨v', h1, h2, by rw [flames_sym] at h3; exact Mvs.of_own h3 (by decide)⟩
  have kcut' := Lib.hid kcut
  have kclose' := Lib.hid kclose
  have kmotif' := Lib.hid kmotif
  have kkind' := Lib.hid kkind
  have kgap' := Lib.hid kgap
  have ksym' := Lib.hid ksym
  clear ksym kgap kkind kmotif kclose kcut
  go_enter Try.func4, Try.ntmps4
  have hB := Below.refl w.heap.size w
  go_upto_region 2 with (first | (go_at_call 10; refine (pf_flames _).mono ?_; rintro e w1 ⟨vf, rfl, hb, hp1⟩; have hp' := Lib.hid hp1; have hB1 := Below.tr hB hb;  clear hb hB hp1) | (go_at_call 9; refine (kcut'.out _ _ hp'.out).mono ?_; rintro e w2 ⟨va, rfl, hb, ha⟩; have hB := Below.tr hB1 hb; have ha' := Lib.hid ha; clear hb ha hB1 hp'))
  go_upto_region 3 with (first | (go_at_call 10; refine (pf_flames _).mono ?_; rintro e w1 ⟨vf, rfl, hb, hp1⟩; have hp' := Lib.hid hp1; have hB1 := Below.tr hB hb; have ha' := Lib.hid (ha'.out.below hb); clear hb hB hp1) | (go_at_call 11; refine (kclose'.out _ _ hp'.out).mono ?_; rintro e w2 ⟨rfl, hb⟩; have hB := Below.tr hB1 hb; have ha' := Lib.hid (ha'.out.below hb); clear hb hB1 hp'))
  go_upto_region 4 with (first | (go_at_call 13; refine (pf_barley _ _ (lit1 _ [0, 2] 3 _ rfl (by simp [maxLen]))).mono ?_; rintro e w1 ⟨vf, rfl, hb, hp1⟩; have hb := (alc1 _ _).trans (hb.mono (by simp)); have hp' := Lib.hid hp1; have hB1 := Below.tr hB hb; have ha' := Lib.hid (ha'.out.below hb); clear hb hB hp1) | (go_at_call 12; refine (kmotif'.out _ _ hp'.out).mono ?_; rintro e w2 ⟨rfl, hb⟩; have hB := Below.tr hB1 hb; have ha' := Lib.hid (ha'.out.below hb); clear hb hB1 hp'))
  go_upto_region 5 with (first | (go_at_call 13; refine (pf_barley _ _ (lit1 _ [0, 2] 3 _ rfl (by simp [maxLen]))).mono ?_; rintro e w1 ⟨vf, rfl, hb, hp1⟩; have hb := (alc1 _ _).trans (hb.mono (by simp)); have hp' := Lib.hid hp1; have hB1 := Below.tr hB hb; have ha' := Lib.hid (ha'.out.below hb); clear hb hB hp1) | (go_at_call 14; refine (kkind'.out _ _ hp'.out).mono ?_; rintro e w2 ⟨rfl, hb⟩; have hB := Below.tr hB1 hb; have ha' := Lib.hid (ha'.out.below hb); clear hb hB1 hp'))
  go_upto_region 6 with (first | (go_at_call 10; refine (pf_flames _).mono ?_; rintro e w1 ⟨vf, rfl, hb, hp1⟩; have hp' := Lib.hid hp1; have hB1 := Below.tr hB hb; have ha' := Lib.hid (ha'.out.below hb); clear hb hB hp1) | (go_at_call 15; refine (kgap'.out _ _ hp'.out).mono ?_; rintro e w2 ⟨rfl, hb⟩; have hB := Below.tr hB1 hb; have ha' := Lib.hid (ha'.out.below hb); clear hb hB1 hp'))
  go_upto_region 7 with (first | (go_at_call 10; refine (pf_flames _).mono ?_; rintro e w1 ⟨vf, rfl, hb, hp1⟩; have hp' := Lib.hid hp1; have hB1 := Below.tr hB hb; have ha' := Lib.hid (ha'.out.below hb); clear hb hB hp1) | (go_at_call 16; refine (ksym'.out _ _ hp'.out).mono ?_; rintro e w2 ⟨vm, rfl, hb, hm⟩; have hB := Below.tr hB1 hb; have hm' := Lib.hid hm; have ha' := Lib.hid (ha'.out.below hb); clear hb hB1 hp' hm))
  go_upto_region 8 with (fail)
  go_wp2_with (first | (go_at_call 17; refine (same_lit _ _ [110, 110, 116, 110, 110, 116] _ (ha'.out.below (alc2 _ _ _)) (lit1 _ [110, 110, 116, 110, 110, 116] 3 _ (by simp) (by simp [maxLen]))).mono ?_; rintro e w3 ⟨rfl, nd, rfl⟩) | (go_at_call 18; refine (moves_lit _ _ flamesS _ (hm'.out.below (below_drewN' (alc2 _ _ _) _)) ((lit_moves w2 flamesS _ rfl 54 (by decide)).below (below_drewN' (alc1 _ _) _))).mono ?_; rintro e w3 ⟨rfl, nd2, rfl⟩))
  go_ret
  exact ⟨rfl, below_drewN' (hB.trans ((alc2 _ _ _).mono hB.size)) _⟩
end Go.Proofs.Ytbikpadjmmgpcaa
