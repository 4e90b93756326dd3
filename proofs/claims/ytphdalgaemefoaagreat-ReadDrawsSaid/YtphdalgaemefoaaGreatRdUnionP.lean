/- The program's meet: what two lists of spans have in common. slices.Clone of spans; the program's union behind the sorting: the loop. The program's union, but for the sorting (a hypothesis, hsort). -/
import Derived.Test.YtphdalgaemefoaaGreatFindLaw
import Derived.Test.YtphdalgaemefoaaGreatMonoR
import Derived.Test.YtphdalgaemefoaaGreatRdTag
import Derived.Test.YtphdalgaemefoaaGreatRdSort
import Derived.Lib.MinMax
import Derived.BigRegion
import Derived.BigQuiet
namespace Go.Proofs.YtphdalgaemefoaaGreat
set_option maxRecDepth 100000
set_option maxHeartbeats 1000000
open Go.RowKit
set_option linter.unusedVariables false
set_option linter.unusedSimpArgs false
def MPred.boxZ (N : Nat) : MPred := ⟨fun v W => ∃ X, v = .pointer (some ⟨X, 0, none⟩) ∧ N ≤ X ∧ W.heap[X]? = some (.cells #[.int .i64 0, .int .i64 0] 101), fun _ _ _ h ⟨X, e, a, b⟩ => ⟨X, e, a, blk h b⟩⟩
theorem spanInfo9 : (Tryz.prog.info? 101).map (fun i => (i.zero, i.size, i.bytes)) = some (some (.agg #[.int .i64 0, .int .i64 0]), 2, 16) := by kernel_rfl
def MeI (w : World) (A B : List Spn) (i k : Nat) (vo : Value) (W : World) : Prop := ∃ out : List Spn, Below w.heap.size w W ∧ W.ownsRow w.heap.size 101 2 vo out.length (out.flatMap spnEnc) ∧ out ++ meetL (A.drop i) (B.drop k) = meetL A B ∧ out.length ≤ i + k
theorem MeI.later {w : World} {A B : List Spn} {i k : Nat} {vo : Value} {W W' : World} (h : MeI w A B i k vo W) (hb : Below W.heap.size W W') : MeI w A B i k vo W' := by
 obtain ⟨out, a, b, c, d⟩ := h
 exact ⟨out, bel_set a hb, own_below b hb, c, d⟩
theorem pf_rd_meet (va vb : Value) (A B : List Spn) (w : World) (hva : SpnL w va A) (hvb : SpnL w vb B) (ha : SpB A) (hb : SpB B) (hla : A.length ≤ 10000) (hlb : B.length ≤ 10000) :
  Calls Tryz.prog 66 #[va, vb] w fun e w' => ∃ v', e = .returned v' ∧ Below w.heap.size w w' ∧ SpT w' v' (meetL A B) := by
 obtain ⟨A1, c1, rfl, -⟩ := hva.slice
 obtain ⟨A2, c2, rfl, -⟩ := hvb.slice
 have hI0 : MeI w A B 0 0 (.slice none 0 0) w := ⟨[], Below.refl _ _, World.ownsRow_nil _ _ _ _, rfl, by simp⟩
 have ⟨hva', hvb', ha', hb', hI0'⟩ := hyd5 hva hvb ha hb hI0
 clear hI0 hb ha hvb hva
 go_enter Tryz.func66, Tryz.ntmps66
 go_wp2
 go_loopw [6, 7, 5] (fun ix kx vo wr => ∃ i k : Nat, i ≤ A.length ∧ k ≤ B.length ∧ ix = .int .i64 (i : Int) ∧ kx = .int .i64 (k : Int) ∧ Hid (MeI w A B i k vo wr)) (fun ix kx _ _ => (A.length - (intOf ix).toNat) + (B.length - (intOf kx).toNat))
 case atStart => exact ⟨0, 0, Nat.zero_le _, Nat.zero_le _, rfl, rfl, hI0'⟩
 case round =>
  obtain ⟨i, k, hi, hk, rfl, rfl, hI⟩ := hrel
  obtain ⟨out, hbw, ho, hgo, hol⟩ := hI.out
  obtain ⟨AO, cO, rfl⟩ := slice_formR ho
  by_cases hlt : i < A.length
  ·by_cases hlt2 : k < B.length
   ·obtain ⟨b1, o1, x1, heq, hbl1, g0', g1'⟩ := SpnL.cells hva'.out hlt
    injection heq with e1 e2 e3
    subst e1 e3
    clear e2
    obtain ⟨b2, o2, x2, heq, hbl2, h0', h1'⟩ := SpnL.cells hvb'.out hlt2
    injection heq with e1 e2 e3
    subst e1 e3
    clear e2
    have j1 : (i : Int) < (A.length : Int) := by omega
    have j2 : (0 : Int) ≤ (i : Int) := by omega
    have j3 : (k : Int) < (B.length : Int) := by omega
    have j4 : (0 : Int) ≤ (k : Int) := by omega
    have hst := meetL_drop hlt hlt2
    obtain ⟨⟨s1, s2⟩, hs⟩ : ∃ s, A[i] = s := ⟨_, rfl⟩
    obtain ⟨⟨t1, t2⟩, ht⟩ : ∃ s, B[k] = s := ⟨_, rfl⟩
    rw [hs] at g0' g1' hst
    rw [ht] at h0' h1' hst
    dsimp only at g0' g1' h0' h1' hst
    obtain ⟨y1, hy1⟩ : ∃ y, max s1 t1 = y := ⟨_, rfl⟩
    obtain ⟨y2, hy2⟩ : ∃ y, min s2 t2 = y := ⟨_, rfl⟩
    rw [hy1, hy2] at hst
    have hcell : ∀ W, Below w.heap.size w W → W.cell? ⟨b1, o1 + i * 2, none⟩ = some (.int .i64 s1) ∧ W.cell? ⟨b1, o1 + i * 2 + 1, none⟩ = some (.int .i64 s2) ∧ W.cell? ⟨b2, o2 + k * 2, none⟩ = some (.int .i64 t1) ∧ W.cell? ⟨b2, o2 + k * 2 + 1, none⟩ = some (.int .i64 t2) := fun W h =>
     ⟨(Below.cell h (p := ⟨b1, o1 + i * 2, none⟩) hbl1).trans g0', (Below.cell h (p := ⟨b1, o1 + i * 2 + 1, none⟩) hbl1).trans g1', (Below.cell h (p := ⟨b2, o2 + k * 2, none⟩) hbl2).trans h0', (Below.cell h (p := ⟨b2, o2 + k * 2 + 1, none⟩) hbl2).trans h1'⟩
    obtain ⟨g0, g1, h0, h1⟩ := hcell wr hbw
    have hbl1w : b1 < wr.heap.size := Nat.lt_of_lt_of_le hbl1 hbw.size
    have hbl2w : b2 < wr.heap.size := Nat.lt_of_lt_of_le hbl2 hbw.size
    clear g0' g1' h0' h1'
    have ⟨hI', hbw', ho', hgo', hst', hs', ht', hcell'⟩ := hyd8 hI hbw ho hgo hst hs ht hcell
    clear hcell ht hs hst hgo ho hbw hI
    clear g0 g1 h0 h1
    go_wp2_with (fail)
--@ARM4
    refine wp_region_monoT (R := leRel) 24 [some 19, some 20, some 21, some 22, some 23, some 24, some 25, some 26, some 27, some 28, some 29, some 30, some 31, some 32, some 33, some 34, some 35, some 36, some 37, some 38, some 39, some 40, some 41, some 8, none] [[], [], [0, 1], [2], [3], [], [], [5, 6], [7], [8], [4, 9], [], [], [11, 12], [13], [14], [], [], [16, 17], [18], [19], [15, 20], [10, 21], [], [22, 23]]
     [.eq (.slice (some ⟨b1, o1, none⟩) A.length c1), .eq (.int .i64 (i : Int)), .eq (.pointer (some ⟨b1, o1 + i * 2, none⟩)), .eq (.pointer (some ⟨b1, o1 + i * 2, none⟩)), .eq (.int .i64 s1), .eq (.slice (some ⟨b2, o2, none⟩) B.length c2), .eq (.int .i64 (k : Int)), .eq (.pointer (some ⟨b2, o2 + k * 2, none⟩)), .eq (.pointer (some ⟨b2, o2 + k * 2, none⟩)), .eq (.int .i64 t1), .eq (.int .i64 y1), .eq (.slice (some ⟨b1, o1, none⟩) A.length c1), .eq (.int .i64 (i : Int)), .eq (.pointer (some ⟨b1, o1 + i * 2, none⟩)), .eq (.pointer (some ⟨b1, o1 + i * 2 + 1, none⟩)), .eq (.int .i64 s2), .eq (.slice (some ⟨b2, o2, none⟩) B.length c2), .eq (.int .i64 (k : Int)), .eq (.pointer (some ⟨b2, o2 + k * 2, none⟩)), .eq (.pointer (some ⟨b2, o2 + k * 2 + 1, none⟩)), .eq (.int .i64 t2), .eq (.int .i64 y2), .eq (.agg #[.int .i64 y1, .int .i64 y2]), MPred.boxZ wr.heap.size] (fun _ _ => False) (by kernel_rfl) (by kernel_rfl) (by kernel_rfl) (by kernel_rfl) (by kernel_rfl) ?_ (fun _ _ _ _ h => h.elim) ?_
    ·simp only [List.take_succ_cons, List.take_zero]
     refine sMc rfl ?_ (sMc rfl ?_ (sMc rfl ?_ (sMc rfl ?_ (sMc rfl ?_ (sMc rfl ?_ (sMc rfl ?_ (sMc rfl ?_ (sMc rfl ?_ (sMc rfl ?_ (sMc rfl ?_ (sMc rfl ?_ (sMc rfl ?_ (sMc rfl ?_ (sMc rfl ?_ (sMc rfl ?_ (sMc rfl ?_ (sMc rfl ?_ (sMc rfl ?_ (sMc rfl ?_ (sMc rfl ?_ (sMc rfl ?_ (sMc rfl ?_ (sMc rfl ?_ (stepsG_nil))))))))))))))))))))))))
     ·intro xv W hR hf Q hK hP
      simp only [fA] at hK ⊢
      go_wp2
      exact hK _ _ lrR rfl
     ·intro xv W hR hf Q hK hP
      simp only [fA] at hK ⊢
      go_wp2
      exact hK _ _ lrR rfl
     ·intro xv W hR hf Q hK hP
      obtain ⟨e0, e1, -⟩ := hf
      change _ = _ at e0 e1
      simp only [fA, e0, e1] at hK ⊢
      go_wp2
      exact hK _ _ lrR rfl
     ·intro xv W hR hf Q hK hP
      obtain ⟨e0, -⟩ := hf
      change _ = _ at e0
      simp only [fA, e0] at hK ⊢
      go_wp2
      exact hK _ _ lrR rfl
     ·intro xv W hR hf Q hK hP
      obtain ⟨e0, -⟩ := hf
      change _ = _ at e0
      have cc := (hcell'.out W (bel_set hbw'.out hR)).1
      simp only [fA, e0] at hK ⊢
      go_wp2
      exact hK _ _ lrR rfl
     ·intro xv W hR hf Q hK hP
      simp only [fA] at hK ⊢
      go_wp2
      exact hK _ _ lrR rfl
     ·intro xv W hR hf Q hK hP
      simp only [fA] at hK ⊢
      go_wp2
      exact hK _ _ lrR rfl
     ·intro xv W hR hf Q hK hP
      obtain ⟨e0, e1, -⟩ := hf
      change _ = _ at e0 e1
      simp only [fA, e0, e1] at hK ⊢
      go_wp2
      exact hK _ _ lrR rfl
     ·intro xv W hR hf Q hK hP
      obtain ⟨e0, -⟩ := hf
      change _ = _ at e0
      simp only [fA, e0] at hK ⊢
      go_wp2
      exact hK _ _ lrR rfl
     ·intro xv W hR hf Q hK hP
      obtain ⟨e0, -⟩ := hf
      change _ = _ at e0
      have cc := (hcell'.out W (bel_set hbw'.out hR)).2.2.1
      simp only [fA, e0] at hK ⊢
      go_wp2
      exact hK _ _ lrR rfl
     ·intro xv W hR hf Q hK hP
      obtain ⟨e0, e1, -⟩ := hf
      change _ = _ at e0 e1
      simp only [fA, e0, e1] at hK ⊢
      go_wp2
      exact hK _ _ lrR rfl
     ·intro xv W hR hf Q hK hP
      simp only [fA] at hK ⊢
      go_wp2
      exact hK _ _ lrR rfl
     ·intro xv W hR hf Q hK hP
      simp only [fA] at hK ⊢
      go_wp2
      exact hK _ _ lrR rfl
     ·intro xv W hR hf Q hK hP
      obtain ⟨e0, e1, -⟩ := hf
      change _ = _ at e0 e1
      simp only [fA, e0, e1] at hK ⊢
      go_wp2
      exact hK _ _ lrR rfl
     ·intro xv W hR hf Q hK hP
      obtain ⟨e0, -⟩ := hf
      change _ = _ at e0
      simp only [fA, e0] at hK ⊢
      go_wp2
      exact hK _ _ lrR rfl
     ·intro xv W hR hf Q hK hP
      obtain ⟨e0, -⟩ := hf
      change _ = _ at e0
      have cc := (hcell'.out W (bel_set hbw'.out hR)).2.1
      simp only [fA, e0] at hK ⊢
      go_wp2
      exact hK _ _ lrR rfl
     ·intro xv W hR hf Q hK hP
      simp only [fA] at hK ⊢
      go_wp2
      exact hK _ _ lrR rfl
     ·intro xv W hR hf Q hK hP
      simp only [fA] at hK ⊢
      go_wp2
      exact hK _ _ lrR rfl
     ·intro xv W hR hf Q hK hP
      obtain ⟨e0, e1, -⟩ := hf
      change _ = _ at e0 e1
      simp only [fA, e0, e1] at hK ⊢
      go_wp2
      exact hK _ _ lrR rfl
     ·intro xv W hR hf Q hK hP
      obtain ⟨e0, -⟩ := hf
      change _ = _ at e0
      simp only [fA, e0] at hK ⊢
      go_wp2
      exact hK _ _ lrR rfl
     ·intro xv W hR hf Q hK hP
      obtain ⟨e0, -⟩ := hf
      change _ = _ at e0
      have cc := (hcell'.out W (bel_set hbw'.out hR)).2.2.2
      simp only [fA, e0] at hK ⊢
      go_wp2
      exact hK _ _ lrR rfl
     ·intro xv W hR hf Q hK hP
      obtain ⟨e0, e1, -⟩ := hf
      change _ = _ at e0 e1
      simp only [fA, e0, e1] at hK ⊢
      go_wp2
      exact hK _ _ lrR rfl
     ·intro xv W hR hf Q hK hP
      obtain ⟨e0, e1, -⟩ := hf
      change _ = _ at e0 e1
      simp only [fA, e0, e1] at hK ⊢
      go_wp2
      exact hK _ _ lrR rfl
     ·intro xv W hR hf Q hK hP
      simp only [fA] at hK ⊢
      have zW := Below.size hR
      have ⟨hP', hR'⟩ := hyd2 hP hR
      clear hR hP
      go_wp2
      exact hK _ _ (alc1 _ _) ⟨_, rfl, zW, alc_at _ _⟩
    ·intro xv W3 hR hf Q' hQ1 _
     have e22 : xv 22 = .agg #[.int .i64 y1, .int .i64 y2] := hf 22 (by decide)
     obtain ⟨X, e23, hX, kX⟩ : ∃ X, xv 23 = .pointer (some ⟨X, 0, none⟩) ∧ wr.heap.size ≤ X ∧ W3.heap[X]? = some (.cells #[.int .i64 0, .int .i64 0] 101) := hf 23 (by decide)
     simp only [List.drop_succ_cons, List.drop_zero]
     rw [show List.range 24 = [0, 1, 2, 3, 4, 5, 6, 7, 8, 9, 10, 11, 12, 13, 14, 15, 16, 17, 18, 19, 20, 21, 22, 23] from rfl]
     simp only [fA, e22, e23]
     clear e22 e23 hf
     obtain ⟨x0, x1⟩ := pc2 kX
     have fz0 := pfrz kX 0
     have fz1 := pfrz kX 1
     obtain ⟨W1, hW1, hb1, k1⟩ : ∃ V, (W3.setCell ⟨X, 0, none⟩ (.int .i64 y1)).setCell ⟨X, 1, none⟩ (.int .i64 y2) = V ∧ Below wr.heap.size wr V ∧ V.heap[X]? = some (.cells #[.int .i64 y1, .int .i64 y2] 101) := ⟨_, rfl, pset2b hR hX _ _, pset2 kX _ _⟩
     have ⟨hR', kX', hb1', k1'⟩ := hyd4 hR kX hb1 k1
     clear k1 hb1 kX hR
     go_wp2
     refine hQ1 _ _ ?_
     clear hQ1 x0 x1 fz0 fz1 hW1
--@END4
     have hbw1 := bel_set hbw'.out hb1'.out
     have ho1 := own_below ho'.out hb1'.out
     obtain ⟨Wa, hWa, hba, ka⟩ := newb W1 (.cells #[.int .i64 y1, .int .i64 y2] 101)
     have hoa := own_below ho1 hba
     have hza : w.heap.size ≤ Wa.heap.size := (bel_set hbw1 hba).size
     have hbwa := bel_set hbw1 hba
     clear hy1 hy2
     obtain ⟨d0, d1⟩ := pc2 k1'.out
     obtain ⟨g0, g1, h0, h1⟩ := hcell'.out W1 hbw1
     have ⟨hbw1', ho1', hba', ka', hoa', hbwa', hWa'⟩ := hyd7 hbw1 ho1 hba ka hoa hbwa hWa
     clear hWa hbwa hoa ka hba ho1 hbw1
     by_cases hle : y1 ≤ y2
     ·have hled : decide (y1 ≤ y2) = true := decide_eq_true hle
      have hWa := hWa'.out
      obtain ⟨na0, na1⟩ := pc2 ka'.out
      go_wp2_with (first | (at_builtin; go_must (refine wpList_appS _ rfl _ _ 98 rfl w.heap.size 101 Tryz.underlying98 spanInfo9 (.slice AO out.length cO) out rfl hoa'.out W1.heap.size (y1, y2) rfl na0 na1 (by omega) hza ?_)))
      intro v3 w3 r1 r2 r3
      obtain ⟨A3, c3, rfl⟩ := slice_formR r1
      have hbw3 : Below w.heap.size w w3 := hbwa'.out.trans (r2 _ (Nat.le_refl _))
      clear na0 na1 d0 d1 hWa g0 g1 h0 h1 r2 r3
      obtain ⟨g0, g1, h0, h1⟩ := hcell'.out w3 hbw3
      have ⟨r1', hbw3'⟩ := hyd2 r1 hbw3
      clear hbw3 r1
      by_cases hc : s2 < t2
      ·have hcd : decide (s2 < t2) = true := decide_eq_true hc
       have hN : MeI w A B (i + 1) k (.slice A3 (out.length + 1) c3) w3 := ⟨out ++ [(y1, y2)], hbw3'.out, by simpa using r1'.out, by have h := hst'.out; rw [if_pos hle, if_pos hc] at h; rw [← hgo'.out, h]; simp, by simp; omega⟩
       have hN' := hyd1 hN
       clear hN
       go_wp2
       go_quiet (fail)
       have hN2 := hN'.out.later (below_drewN' (Below.refl _ _) nq)
       have hN2' := hyd1 hN2
       clear hN2
       go_wp2
       go_roundw
       case rel => exact ⟨i + 1, k, by omega, by omega, by go_num, rfl, hN2'⟩
       case measure => simp [intOf]; omega
      ·have hcd : decide (s2 < t2) = false := decide_eq_false hc
       have hN : MeI w A B i (k + 1) (.slice A3 (out.length + 1) c3) w3 := ⟨out ++ [(y1, y2)], hbw3'.out, by simpa using r1'.out, by have h := hst'.out; rw [if_pos hle, if_neg hc] at h; rw [← hgo'.out, h]; simp, by simp; omega⟩
       have hN' := hyd1 hN
       clear hN
       go_wp2
       go_quiet (fail)
       have hN2 := hN'.out.later (below_drewN' (Below.refl _ _) nq)
       have hN2' := hyd1 hN2
       clear hN2
       go_wp2
       go_roundw
       case rel => exact ⟨i, k + 1, by omega, by omega, rfl, by go_num, hN2'⟩
       case measure => simp [intOf]; omega
     ·have hled : decide (y1 ≤ y2) = false := decide_eq_false hle
      by_cases hc : s2 < t2
      ·have hcd : decide (s2 < t2) = true := decide_eq_true hc
       have hN : MeI w A B (i + 1) k (.slice AO out.length cO) W1 := ⟨out, hbw1'.out, ho1'.out, by have h := hst'.out; rw [if_neg hle, if_pos hc] at h; rw [← hgo'.out, h]; simp, by omega⟩
       have hN' := hyd1 hN
       clear hN
       go_wp2
       go_quiet (fail)
       have hN2 := hN'.out.later (below_drewN' (Below.refl _ _) nq)
       have hN2' := hyd1 hN2
       clear hN2
       go_wp2
       go_roundw
       case rel => exact ⟨i + 1, k, by omega, by omega, by go_num, rfl, hN2'⟩
       case measure => simp [intOf]; omega
      ·have hcd : decide (s2 < t2) = false := decide_eq_false hc
       have hN : MeI w A B i (k + 1) (.slice AO out.length cO) W1 := ⟨out, hbw1'.out, ho1'.out, by have h := hst'.out; rw [if_neg hle, if_neg hc] at h; rw [← hgo'.out, h]; simp, by omega⟩
       have hN' := hyd1 hN
       clear hN
       go_wp2
       go_quiet (fail)
       have hN2 := hN'.out.later (below_drewN' (Below.refl _ _) nq)
       have hN2' := hyd1 hN2
       clear hN2
       go_wp2
       go_roundw
       case rel => exact ⟨i, k + 1, by omega, by omega, rfl, by go_num, hN2'⟩
       case measure => simp [intOf]; omega
   ·have hkB : k = B.length := by omega
    have hres : out = meetL A B := by rw [← hgo, List.drop_eq_nil_of_le (by omega : B.length ≤ k), meetL_nil_right, List.append_nil]
    have hj : ¬ (k : Int) < (B.length : Int) := by omega
    have hji : (i : Int) < (A.length : Int) := by omega
    have hso : SpT wr (.slice AO out.length cO) (meetL A B) := by rw [← hres]; exact SpT.of_own (base := w.heap.size) ho
    have ⟨hI', hbw', ho', hgo', hres', hso'⟩ := hyd6 hI hbw ho hgo hres hso
    clear hso hres hgo ho hbw hI
    go_wp2
    go_ret
    exact ⟨_, rfl, hbw'.out, hso'.out⟩
  ·have hres : out = meetL A B := by rw [← hgo, List.drop_eq_nil_of_le (by omega : A.length ≤ i), meetL_nil_left, List.append_nil]
   have hji : ¬ (i : Int) < (A.length : Int) := by omega
   have hso : SpT wr (.slice AO out.length cO) (meetL A B) := by rw [← hres]; exact SpT.of_own (base := w.heap.size) ho
   have ⟨hI', hbw', ho', hgo', hres', hso'⟩ := hyd6 hI hbw ho hgo hres hso
   clear hso hres hgo ho hbw hI
   go_wp2
   go_ret
   exact ⟨_, rfl, hbw'.out, hso'.out⟩
end Go.Proofs.YtphdalgaemefoaaGreat
namespace Go.Proofs.YtphdalgaemefoaaGreat
set_option maxRecDepth 100000
set_option maxHeartbeats 1000000
open Go.RowKit
set_option linter.unusedVariables false
set_option linter.unusedSimpArgs false
theorem pf_cloneSp (v : Value) (L : List Spn) (w : World) (hv : SpnL w v L) (h0 : 0 < L.length) (hl : L.length ≤ 1000000) :
  Calls Tryz.prog 80 #[v] w fun e w' => ∃ v', e = .returned v' ∧ Below w.heap.size w w' ∧ w'.ownsRow w.heap.size 101 2 v' L.length (L.flatMap spnEnc) := by
 obtain ⟨A, c, rfl, q1, q2, q3, q4⟩ := id hv
 obtain ⟨b, off, rfl, hb, hc⟩ := q4 h0
 have hnil := fun W => Lib.run_eql_slice_nil (P := Tryz.prog) W 98 101 (some ⟨b, off, none⟩) L.length c 0 0 Tryz.underlying98
 obtain ⟨W0, hW0, hb0, k0⟩ := newb w (.cells #[] 101)
 obtain ⟨mi, hmi, hz, hsz, hby⟩ := info_parts spanInfo9
 have hcell : ∀ j u, (L.flatMap spnEnc)[j]? = some u → W0.cell? ((⟨b, off, none⟩ : Addr).add j) = some u := fun j u hu => by
  have hfl : (L.flatMap spnEnc).length = L.length * 2 := flat_length (enc := spnEnc) (k := 2) (fun _ => rfl) L
  have hj : j < L.length * 2 := by rw [← hfl]; exact (List.getElem?_eq_some_iff.1 hu).1
  have hadd : (⟨b, off, none⟩ : Addr).add j = ⟨b, off + j, none⟩ := by unfold Addr.add; split <;> simp_all
  have hd : j / 2 < L.length := by omega
  have hm := Nat.mod_lt j (by decide : 0 < 2)
  have hg := flat_get (enc := spnEnc) (k := 2) (fun _ => rfl) L (j / 2) hd (j % 2) ((spnEnc L[j / 2])[j % 2]'(by show j % 2 < 2; exact hm)) (List.getElem?_eq_getElem _)
  rw [show j / 2 * 2 + j % 2 = j by omega, hu] at hg
  injection hg with hg
  have h9 := hc (j / 2) hd (j % 2) _ (List.getElem?_eq_getElem (by show j % 2 < 2; exact hm))
  rw [hadd, show off + j = off + j / 2 * 2 + j % 2 by omega]
  refine ((Below.cell hb0 (p := ⟨b, off + j / 2 * 2 + j % 2, none⟩) hb)).trans ?_
  have hadd2 : (⟨b, off + j / 2 * 2, none⟩ : Addr).add (j % 2) = ⟨b, off + j / 2 * 2 + j % 2, none⟩ := by unfold Addr.add; split <;> simp_all
  first | rw [h9, hg] | (rw [hadd2] at h9; rw [h9, hg])
 have hone : ∀ u ∈ L.flatMap spnEnc, u.oneCell' = true := fun u hu => by
  obtain ⟨y, -, hy⟩ := List.mem_flatMap.1 hu
  simp [spnEnc] at hy
  rcases hy with rfl | rfl <;> rfl
 have ⟨hv', hb0', k0', hcell', hone', hc'⟩ := hyd6 hv hb0 k0 hcell hone hc
 clear hc hone hcell k0 hb0 hv
 clear q3 q4
 go_enter Tryz.func80, Tryz.ntmps80
 go_wp2_with (first | (at_builtin; refine wpList_append_grows W0 rfl _ _ 98 rfl 101 mi _ 2 16 Tryz.underlying98 hmi hz hsz hby rfl (by decide) (some ⟨w.heap.size, 0, none⟩) 0 0 [] rfl (fun e => (by cases e)) (by simp) (fun _ _ _ _ hu => (by simp at hu)) ⟨b, off, none⟩ L.length c (L.flatMap spnEnc) rfl (flat_length (enc := spnEnc) (k := 2) (fun _ => rfl) L) (fun j u hu => hcell'.out j u hu) hone'.out (by omega) (by unfold maxLen; omega) (by omega) ?_) | fail)
 intro v' w' r1 r2
 have hbw : Below w.heap.size w w' := hb0'.out.trans (((Below.refl _ _).grown r2 (Nat.le_refl _) fun q hq => by cases hq).mono (hb0'.out.size))
 obtain ⟨A9, c9, rfl⟩ := slice_formR r1
 have o9 : w'.ownsRow w.heap.size 101 2 (.slice A9 L.length c9) L.length (L.flatMap spnEnc) := own_base r1 hb0'.out.size
 have ⟨r1', r2', hbw', o9'⟩ := hyd4 r1 r2 hbw o9
 clear o9 hbw r2 r1
 go_wp2
 go_ret
 exact ⟨_, rfl, hbw'.out, o9'.out⟩
end Go.Proofs.YtphdalgaemefoaaGreat
namespace Go.Proofs.YtphdalgaemefoaaGreat
set_option maxRecDepth 100000
set_option maxHeartbeats 1000000
open Go.RowKit
set_option linter.unusedVariables false
set_option linter.unusedSimpArgs false
theorem unite_take {D : List Spn} {k : Nat} (h : k < D.length) : (D.take (k + 1)).foldl uniteStep [] = uniteStep ((D.take k).foldl uniteStep []) D[k] := by rw [List.take_succ_eq_append_getElem h, List.foldl_append]; rfl
theorem uniteStep_len (out : List Spn) (s : Spn) : (uniteStep out s).length ≤ out.length + 1 := by
 rcases List.eq_nil_or_concat out with rfl | ⟨pre, t, rfl⟩
 ·simp [uniteStep]
 ·rw [List.concat_eq_append, uniteStep_snoc]; split <;> simp
theorem uniteStep_spb {out : List Spn} {s : Spn} (h : SpB out) (hs : SpB [s]) : SpB (uniteStep out s) := by
 have h1 := hs s (List.mem_singleton.2 rfl)
 rcases List.eq_nil_or_concat out with rfl | ⟨pre, t, rfl⟩
 ·intro x hx; simp [uniteStep] at hx; subst hx; exact h1
 ·rw [List.concat_eq_append] at h ⊢
  rw [uniteStep_snoc]
  have ht := h t (by simp)
  split
  ·intro x hx
   rcases List.mem_append.1 hx with q | q
   ·exact h x (by simp [q])
   ·rw [List.mem_singleton.1 q]; simp only; omega
  ·intro x hx
   rcases List.mem_append.1 hx with q | q
   ·exact h x (by simpa using q)
   ·rw [List.mem_singleton.1 q]; exact h1
theorem flat_last (pre : List Spn) (t : Spn) (y : Int) : ((pre ++ [t]).flatMap spnEnc).set (pre.length * 2 + 1) (.int .i64 y) = (pre ++ [(t.1, y)]).flatMap spnEnc := by
 have hfl : (pre.flatMap spnEnc).length = pre.length * 2 := flat_length (enc := spnEnc) (k := 2) (fun _ => rfl) pre
 rw [List.flatMap_append, List.flatMap_append, List.set_append, if_neg (by omega), hfl, show pre.length * 2 + 1 - pre.length * 2 = 1 by omega]
 simp [spnEnc]
def UnI (Wd : World) (D : List Spn) (k : Nat) (vo : Value) (W : World) : Prop := ∃ out : List Spn, out = (D.take k).foldl uniteStep [] ∧ SpB out ∧ out.length ≤ k ∧ Below Wd.heap.size Wd W ∧ W.ownsRow Wd.heap.size 101 2 vo out.length (out.flatMap spnEnc)
theorem pf_union_of (hsort : ∀ (W : World) (base : Nat) (v : Value) (D : List Spn), W.ownsRow base 101 2 v D.length (D.flatMap spnEnc) → base ≤ W.heap.size → D.length ≤ 10000 → SpB D → Calls Tryz.prog 82 #[v, .func (.func 83) #[] #[]] W fun e w' => e = .returned (.tuple #[]) ∧ Below base W w' ∧ ∃ D' : List Spn, D'.Perm D ∧ D'.Pairwise (fun s t => s.1 ≤ t.1) ∧ w'.ownsRow base 101 2 v D'.length (D'.flatMap spnEnc))
  (v : Value) (L : List Spn) (w : World) (hv : SpnL w v L) (h0 : 0 < L.length) (hl : L.length ≤ 10000) (hb : SpB L) :
  Calls Tryz.prog 67 #[v] w fun e w' => ∃ v', e = .returned v' ∧ Below w.heap.size w w' ∧ SpnL w' v' (normL L) := by
 have kcl := pf_cloneSp v L w hv h0 (by omega)
 obtain ⟨A, c, rfl, -⟩ := id hv
 have ⟨hv', hb', kcl', hsort'⟩ := hyd4 hv hb kcl hsort
 clear hsort kcl hb hv
 go_enter Tryz.func67, Tryz.ntmps67
 go_wp2_with (fail)
 go_at_call 80
 refine kcl'.out.mono ?_
 rintro e W1 ⟨v1, rfl, hb1, ho1⟩
 have kdf := pf_delF v1 L W1 w.heap.size ho1 h0 hb1.size
 obtain ⟨A1, c1, rfl⟩ := slice_formR ho1
 have ⟨hb1', ho1', kdf'⟩ := hyd3 hb1 ho1 kdf
 clear kdf ho1 hb1
 go_wp2_with (fail)
 go_at_call 79
 refine kdf'.out.mono ?_
 rintro e W2 ⟨v2, rfl, hb2, ho2⟩
 have hw2 : Below w.heap.size w W2 := hb1'.out.trans hb2
 have hfl : (L.filter okS).length ≤ 10000 := Nat.le_trans (List.length_filter_le _ _) hl
 have ks := hsort'.out W2 w.heap.size v2 (L.filter okS) ho2 hw2.size hfl (fun s hs => hb'.out s (List.mem_filter.1 hs).1)
 obtain ⟨A2, c2, rfl⟩ := slice_formR ho2
 have ⟨hb2', ho2', hw2', ks'⟩ := hyd4 hb2 ho2 hw2 ks
 clear ks hw2 ho2 hb2
 go_wp2_with (fail)
 go_at_call 82
 refine ks'.out.mono ?_
 rintro e W3 ⟨rfl, hb3, D, hperm, hpair, ho3⟩
 have hw3 : Below w.heap.size w W3 := hw2'.out.trans hb3
 have hD : uniteL D = normL L := unite_norm (l := L) (d := D) (fun s => hperm.mem_iff) hpair
 have hDl : D.length = (L.filter okS).length := hperm.length_eq
 have hDb : SpB D := fun s hs => hb'.out s (List.mem_filter.1 (hperm.mem_iff.1 hs)).1
 rw [← hDl]
 have hsD : SpnL W3 (.slice A2 D.length c2) D := by
  have h := SV.of_own (base := w.heap.size) (e := 101) (enc := spnEnc) (fun _ => rfl) ho3
  rwa [← hDl] at h
 have hD1 : D.length ≤ 10000 := by omega
 have hI0 : UnI W3 D 0 (.slice none 0 0) W3 := ⟨[], rfl, (fun s h => by cases h), by simp, Below.refl _ _, World.ownsRow_nil _ _ _ _⟩
 have ⟨hb3', hperm', hpair', ho3', hw3', hD', hDb', hsD'⟩ := hyd8 hb3 hperm hpair ho3 hw3 hD hDb hsD
 have hI0' := hyd1 hI0
 clear hI0 hsD hDb hD hw3 ho3 hpair hperm hb3
 clear hDl
 go_wp2_with (fail)
 go_loopw [14, 3] (fun kx vo wr => ∃ k : Nat, k ≤ D.length ∧ kx = .int .i64 (k : Int) ∧ Hid (UnI W3 D k vo wr)) (fun kx _ _ => D.length - (intOf kx).toNat)
 case atStart => exact ⟨0, Nat.zero_le _, rfl, hI0'⟩
 case round =>
  obtain ⟨k, hk, rfl, hI⟩ := hrel
  obtain ⟨out, hout, hob, hol, hbw, ho⟩ := hI.out
  by_cases hlt : k < D.length
  ·obtain ⟨b1, o1, x1, heq, hbl1, g0, g1⟩ := SpnL.cells (hsD'.out.le hbw) hlt
   injection heq with e1 e2 e3
   subst e1 e3
   clear e2
   have hsucc := unite_take hlt
   have hsb := hDb'.out _ (List.getElem_mem hlt)
   obtain ⟨⟨a, b⟩, hs⟩ : ∃ s, D[k] = s := ⟨_, rfl⟩
   rw [hs] at g0 g1 hsucc hsb
   dsimp only at g0 g1 hsb
   rw [← hout] at hsucc
   have hsp1 : SpB [(a, b)] := fun s h => by rw [List.mem_singleton] at h; rw [h]; exact hsb
   have hnb := uniteStep_spb hob hsp1
   have hnl := uniteStep_len out (a, b)
   obtain ⟨W4, hW4, hb4, k4⟩ := newb wr (.cells #[.int .i64 a, .int .i64 b] 101)
   obtain ⟨d0, d1⟩ := pc2 k4
   have hbw4 := bel_set hbw hb4
   have ho4 := own_below ho hb4
   have j1 : (k : Int) < (D.length : Int) := by omega
   have j2 : (0 : Int) ≤ (k : Int) := by omega
   obtain ⟨AO, cO, rfl⟩ := slice_formR ho
   rcases List.eq_nil_or_concat out with rfl | ⟨pre, t, rfl⟩
   ·have ⟨hI', hout', hob', hbw', ho', hs', hsp1', hnb'⟩ := hyd8 hI hout hob hbw ho hs hsp1 hnb
    have ⟨hnl', hb4', k4', hbw4', ho4', hsucc'⟩ := hyd6 hnl hb4 k4 hbw4 ho4 hsucc
    clear hsucc ho4 hbw4 k4 hb4 hnl hnb hsp1 hs ho hbw hob hout hI
    go_wp2_with (fail)
    clear hW4
    go_quiet (fail)
    have hb5 : Below W4.heap.size W4 (W4.drewN nq) := below_drewN' (Below.refl _ _) nq
    generalize W4.drewN nq = W5 at hb5 ⊢
    have k5 := blk hb5 k4'.out
    clear d0 d1
    obtain ⟨d0, d1⟩ := pc2 k5
    have hbw5 := bel_set hbw4'.out hb5
    have ho5 := own_below ho4'.out hb5
    obtain ⟨Wa, hWa, hba, ka⟩ := newb W5 (.cells #[.int .i64 a, .int .i64 b] 101)
    obtain ⟨na0, na1⟩ := pc2 ka
    have hoa := own_below ho5 hba
    have hza : W3.heap.size ≤ Wa.heap.size := (bel_set hbw5 hba).size
    have hbwa := bel_set hbw5 hba
    have ⟨hb5', k5', hbw5', ho5', hba', ka', hoa', hbwa'⟩ := hyd8 hb5 k5 hbw5 ho5 hba ka hoa hbwa
    clear hbwa hoa ka hba ho5 hbw5 k5 hb5
    go_wp2_with (first | (at_builtin; go_must (refine wpList_appS _ rfl _ _ 98 rfl W3.heap.size 101 Tryz.underlying98 spanInfo9 (.slice AO 0 cO) ([]) rfl hoa'.out W5.heap.size (a, b) rfl na0 na1 (by simp) hza ?_)))
    intro v6 w6 r1 r2 r3
    obtain ⟨A6, c6, rfl⟩ := slice_formR r1
    have hN : UnI W3 D (k + 1) (.slice A6 1 c6) w6 := ⟨[(a, b)], by rw [hsucc'.out]; rfl, hsp1'.out, by simp, hbwa'.out.trans (r2 _ (Nat.le_refl _)), by simpa using r1⟩
    have ⟨r1', r2', r3', hN'⟩ := hyd4 r1 r2 r3 hN
    clear hN r3 r2 r1
    go_wp2
    go_roundw
    case rel => exact ⟨k + 1, by omega, by go_num, hN'⟩
    case measure => simp [intOf]; omega
   ·rw [List.concat_eq_append] at hout hob hol ho hsucc hnb hnl ho4 ⊢
    obtain ⟨m, hm⟩ : ∃ m, pre.length = m := ⟨_, rfl⟩
    have hlen : (pre ++ [t]).length = m + 1 := by simp [hm]
    rw [hlen] at hol ho hnl ho4 ⊢
    have ht := hob t (by simp)
    obtain ⟨g, rfl, hgb⟩ : ∃ g, AO = some ⟨g, 0, none⟩ ∧ W3.heap.size ≤ g := by
     rcases ho4.2 with ⟨-, e⟩ | ⟨g, cap, cur, e, hb9, -⟩
     ·omega
     ·injection e with e1; exact ⟨g, e1, hb9⟩
    have hgl := (ho4.lt g rfl).2
    have hglr := (ho.lt g rfl).2
    obtain ⟨-, q1⟩ := own_spn ho4 hlen (j := m) (by omega)
    have hget : (pre ++ [t])[m]'(by omega) = t := by rw [List.getElem_append_right (by omega)]; simp [hm]
    rw [hget] at q1
    clear hget
    have fq := ho4.frozenAt (m * 2 + 1)
    rw [uniteStep_snoc] at hsucc hnb
    have hm1 : m + 1 ≤ 10000 := by omega
    have i1 : (0 : Int) < (m : Int) + 1 := by omega
    obtain ⟨t1, t2⟩ := t
    dsimp only at q1 ht hsucc hnb
    by_cases hc : a ≤ t2 + 1
    ·rw [if_pos hc] at hsucc hnb
     have hcd : decide (a ≤ t2 + 1) = true := decide_eq_true hc
     have ⟨hI', hout', hob', hbw', ho', hs', hsp1', hnb'⟩ := hyd8 hI hout hob hbw ho hs hsp1 hnb
     have ⟨hnl', hb4', k4', hbw4', ho4', hsucc', hlen', hm'⟩ := hyd8 hnl hb4 k4 hbw4 ho4 hsucc hlen hm
     clear hm hlen hsucc ho4 hbw4 k4 hb4 hnl hnb hsp1 hs ho hbw hob hout hI
     go_wp2_with (fail)
     clear hW4
     go_quiet (fail)
     have hb5 : Below W4.heap.size W4 (W4.drewN nq) := below_drewN' (Below.refl _ _) nq
     generalize W4.drewN nq = W5 at hb5 ⊢
     have k5 := blk hb5 k4'.out
     clear d0 d1 q1 fq
     obtain ⟨d0, d1⟩ := pc2 k5
     have hbw5 := bel_set hbw4'.out hb5
     have ho5 := own_below ho4'.out hb5
     obtain ⟨-, q1⟩ := own_spn ho5 hlen'.out (j := m) (by have := hlen'.out; omega)
     rw [show (pre ++ [(t1, t2)])[m]'(by have := hlen'.out; omega) = (t1, t2) by rw [List.getElem_append_right (by have := hm'.out; omega)]; simp [hm'.out]] at q1
     dsimp only at q1
     have fq := ho5.frozenAt (m * 2 + 1)
     have hg5 := (ho5.lt g rfl).2
     have hx5 := gsl k5
     obtain ⟨y, hy⟩ : ∃ y, max t2 b = y := ⟨_, rfl⟩
     have ⟨hb5', k5', hbw5', ho5'⟩ := hyd4 hb5 k5 hbw5 ho5
     clear ho5 hbw5 k5 hb5
     go_wp2_with (fail)
     go_region
     have hset := (ho5'.out.stored (m * 2 + 1) (.int .i64 y)).1
     have hfl := flat_last pre (t1, t2) y
     rw [hm'.out] at hfl
     rw [hfl] at hset
     have hb6 : Below W3.heap.size W3 (W5.setCell ⟨g, m * 2 + 1, none⟩ (.int .i64 y)).drew := (hbw5'.out.setCell (p := ⟨g, m * 2 + 1, none⟩) hgb _).trans (below_drewN' (Below.refl _ _) 1)
     have ho6 : (W5.setCell ⟨g, m * 2 + 1, none⟩ (.int .i64 y)).drew.ownsRow W3.heap.size 101 2 (.slice (some ⟨g, 0, none⟩) (m + 1) cO) (m + 1) ((pre ++ [(t1, y)]).flatMap spnEnc) := own_below hset (below_drewN' (Below.refl _ _) 1)
     have hs9 := hsucc'.out
     have hn9 := hnb'.out
     rw [hy] at hs9 hn9
     have hN : UnI W3 D (k + 1) (.slice (some ⟨g, 0, none⟩) (m + 1) cO) (W5.setCell ⟨g, m * 2 + 1, none⟩ (.int .i64 y)).drew := ⟨pre ++ [(t1, y)], hs9.symm, hn9, by simp [hm'.out]; omega, hb6, by rw [show (pre ++ [(t1, y)]).length = m + 1 by simp [hm'.out]]; exact ho6⟩
     clear d0 d1 q1 fq
     generalize (W5.setCell ⟨g, m * 2 + 1, none⟩ (.int .i64 y)).drew = W6 at hN ⊢
     clear hset hfl hb6 ho6 hs9 hn9
     have hN' := hyd1 hN
     clear hN
     go_wp2
     go_roundw
     case rel => exact ⟨k + 1, by omega, by go_num, hN'⟩
     case measure => simp [intOf]; omega
    ·rw [if_neg hc] at hsucc hnb
     have hcd : decide (a ≤ t2 + 1) = false := decide_eq_false hc
     have ⟨hI', hout', hob', hbw', ho', hs', hsp1', hnb'⟩ := hyd8 hI hout hob hbw ho hs hsp1 hnb
     have ⟨hnl', hb4', k4', hbw4', ho4', hsucc', hlen', hm'⟩ := hyd8 hnl hb4 k4 hbw4 ho4 hsucc hlen hm
     clear hm hlen hsucc ho4 hbw4 k4 hb4 hnl hnb hsp1 hs ho hbw hob hout hI
     go_wp2_with (fail)
     clear hW4
     go_quiet (fail)
     have hb5 : Below W4.heap.size W4 (W4.drewN nq) := below_drewN' (Below.refl _ _) nq
     generalize W4.drewN nq = W5 at hb5 ⊢
     have k5 := blk hb5 k4'.out
     clear d0 d1
     obtain ⟨d0, d1⟩ := pc2 k5
     clear q1 fq
     have hbw5 := bel_set hbw4'.out hb5
     have ho5 := own_below ho4'.out hb5
     obtain ⟨Wa, hWa, hba, ka⟩ := newb W5 (.cells #[.int .i64 a, .int .i64 b] 101)
     obtain ⟨na0, na1⟩ := pc2 ka
     have hoa := own_below ho5 hba
     have hza : W3.heap.size ≤ Wa.heap.size := (bel_set hbw5 hba).size
     have hbwa := bel_set hbw5 hba
     have ⟨hb5', k5', hbw5', ho5', hba', ka', hoa', hbwa'⟩ := hyd8 hb5 k5 hbw5 ho5 hba ka hoa hbwa
     clear hbwa hoa ka hba ho5 hbw5 k5 hb5
     go_wp2_with (first | (at_builtin; go_must (refine wpList_appS _ rfl _ _ 98 rfl W3.heap.size 101 Tryz.underlying98 spanInfo9 (.slice (some ⟨g, 0, none⟩) (m + 1) cO) (pre ++ [(t1, t2)]) rfl (by rw [hlen'.out]; exact hoa'.out) W5.heap.size (a, b) rfl na0 na1 (by rw [hlen'.out]; omega) hza ?_)))
     intro v6 w6 r1 r2 r3
     obtain ⟨A6, c6, rfl⟩ := slice_formR r1
     have hN : UnI W3 D (k + 1) (.slice A6 (pre.length + 2) c6) w6 := ⟨pre ++ [(t1, t2)] ++ [(a, b)], hsucc'.out.symm, hnb'.out, by simp [hm'.out]; omega, hbwa'.out.trans (r2 _ (Nat.le_refl _)), by simpa using r1⟩
     have ⟨r1', r2', r3', hN'⟩ := hyd4 r1 r2 r3 hN
     clear hN r3 r2 r1
     go_wp2
     go_roundw
     case rel => exact ⟨k + 1, by omega, by go_num, hN'⟩
     case measure => simp [intOf]; omega
  ·obtain rfl : k = D.length := by omega
   rw [List.take_length] at hout
   have hres : SpnL wr u3 (normL L) := by rw [← hD'.out]; show SpnL wr _ (D.foldl uniteStep []); rw [← hout]; exact SV.of_own (base := W3.heap.size) (e := 101) (enc := spnEnc) (fun _ => rfl) ho
   have hwf : Below w.heap.size w wr := bel_set hw3'.out hbw
   have ⟨hI', hout', hob', hbw', ho', hres', hwf'⟩ := hyd7 hI hout hob hbw ho hres hwf
   clear hwf hres ho hbw hob hout hI
   go_wp2
   go_ret
   exact ⟨_, rfl, hwf'.out, hres'.out⟩
end Go.Proofs.YtphdalgaemefoaaGreat
