/- Whether spots are traced to points: the reference's fits. Lists of traces that are the same. -/
import Derived.Test.YtabfaobakmjiaaaGreatPk51
namespace Go.Proofs.YtabfaobakmjiaaaGreat
set_option maxRecDepth 100000
set_option maxHeartbeats 4000000
open Go.RowKit
set_option linter.unusedVariables false
set_option linter.unusedSimpArgs false
theorem qGD (L : List Tra) (v1 v2 : Value) (w : World) (h1 : TraL w v1 L) (h2 : TraL w v2 L) :
  Calls Tryz.prog 9 #[v1, v2] w fun e w' => e = .returned (.bool true) ∧ ∃ n, w' = w.drewN n := by
 obtain ⟨A, c, rfl, hl⟩ := h1.slice;obtain ⟨A2, c2, rfl, -⟩ := h2.slice;unfold maxLen at hl;have ⟨h1', h2'⟩ := hyd2 h1 h2;clear h2 h1;go_enter Tryz.func9, Tryz.ntmps9;go_wp2;go_loopw [5] (fun ix wr => ∃ j : Nat, j ≤ L.length ∧ ix = .int .i64 j ∧ ∃ n, wr = w.drewN n) (fun ix wr => L.length - (intOf ix).toNat)
 case atStart => exact ⟨0, Nat.zero_le _, rfl, 0, rfl⟩
 case round =>
  obtain ⟨j, hj, rfl, n, hn⟩ := hrel
  by_cases hlt : j < L.length
  ·obtain ⟨b, off, x1, heq, hb, hc⟩ := h1'.out.at hlt;injection heq with e1 e2 e3;subst e1 e3;clear e2;obtain ⟨b2, off2, x2, heq, hb2, hc2⟩ := h2'.out.at hlt;injection heq with e1 e2 e3;subst e1 e3;clear e2;obtain ⟨⟨pa, fr, q, bk⟩, hx⟩ : ∃ x, L[j] = x := ⟨_, rfl⟩;rw [hx] at hc hc2;have c0 := hc 0 _ rfl;have c1 := hc 1 _ rfl;have c2 := hc 2 _ rfl;have c3 := hc 3 _ rfl;have d0 := hc2 0 _ rfl;have d1 := hc2 1 _ rfl;have d2 := hc2 2 _ rfl;have d3 := hc2 3 _ rfl;rw [Nat.add_zero] at c0 d0;have hq : ∀ p, wr.cell? p = w.cell? p := fun p => by rw [hn]; simp
   rw [← hq] at c0 c1 c2 c3 d0 d1 d2 d3;have i1 : (j : Int) < (L.length : Int) := by omega
   have i2 : (0 : Int) ≤ (j : Int) := by omega
   clear hc hc2 hq;have ⟨hx', hn'⟩ := hyd2 hx hn;clear hn hx;go_wp2;go_region;go_wp2;go_roundw
   case rel => exact ⟨j + 1, by omega, by go_num, n + 1, by rw [hn'.out]; simp⟩
   case measure => simp [intOf]; omega
  ·obtain rfl : j = L.length := by omega
   go_wp2;go_ret;exact ⟨rfl, n, rfl⟩
structure FtQ (wo : World) (X : Nat) (y : Sp) (k : Nat) (W : World) : Prop where
 bw : Below X wo W
 kx : W.heap[X]? = some (.cells #[.int .i64 (rotP y k).1, .int .i64 (rotP y k).2] 41)
theorem FtQ.step {wo W : World} {X : Nat} {y : Sp} {k : Nat} {a b : Int} (h : FtQ wo X y k W) (ha : (rotP y k).1 = a) (hb : (rotP y k).2 = b) : FtQ wo X y (k + 1) ((W.setCell ⟨X, 0, none⟩ (.int .i64 (-b))).setCell ⟨X, 1, none⟩ (.int .i64 a)) := by
 subst ha hb;exact ⟨Below.setCell (Below.setCell h.bw (p := ⟨X, 0, none⟩) (Nat.le_refl _) _) (p := ⟨X, 1, none⟩) (Nat.le_refl _) _, qAp h.kx⟩
theorem qKL (P seen : List Sp) (pa fr q : Nat) (bk : Bool) (tol : Int) (v1 v2 : Value) (w : World) (h1 : SpotsV w v1 P) (h2 : SpotsV w v2 seen) (hf : fr < P.length) (hq : q ≤ 3)
  (hP : ∀ s ∈ P, (-10000 ≤ s.1 ∧ s.1 ≤ 10000) ∧ (-10000 ≤ s.2 ∧ s.2 ≤ 10000)) (hS : ∀ s ∈ seen, (-10000 ≤ s.1 ∧ s.1 ≤ 10000) ∧ (-10000 ≤ s.2 ∧ s.2 ≤ 10000)) (ht : 0 ≤ tol ∧ tol ≤ 1000) :
  Calls Tryz.prog 34 #[v1, v2, .int .i64 (fr : Int), .int .i64 (q : Int), .bool bk, .int .i64 tol] w fun e w' => e = .returned (.bool (fitT P seen tol ⟨pa, fr, q, bk⟩)) ∧ Below w.heap.size w w' := by
 obtain ⟨A1, c1, rfl, hP1⟩ := h1.form;obtain ⟨A2, c2, rfl, hS1⟩ := h2.form;obtain ⟨n, hn⟩ : ∃ n, P.length = n := ⟨_, rfl⟩;obtain ⟨sn, hsn⟩ : ∃ n, seen.length = n := ⟨_, rfl⟩;rw [hn] at h1 hP1 hf;rw [hsn] at h2 hS1;rw [hn, hsn];obtain ⟨ix, hix⟩ : ∃ f : Nat → Nat, (fun k => idxT n fr bk k) = f := ⟨_, rfl⟩;obtain ⟨NK, hNK⟩ : ∃ f : Nat → Bool, (fun k => qGi P seen tol ⟨pa, fr, q, bk⟩ k) = f := ⟨_, rfl⟩;have hlt0 : ∀ k, ix k < n := fun k => by rw [← hix]; exact qJ5 (by omega)
 have hno : ∀ k, k < sn → NK k = false → fitT P seen tol ⟨pa, fr, q, bk⟩ = false := fun k hk h => qJ6 (by rw [hsn]; exact hk) (by rw [← hNK] at h; exact h);have hyes : (∀ k, k < sn → NK k = true) → fitT P seen tol ⟨pa, fr, q, bk⟩ = true := fun h => qIw fun k hk => by have h9 := h k (by rw [← hsn]; exact hk); rw [← hNK] at h9; exact h9
 have hnk : ∀ k, NK k = qFW (rotP (P.getD (ix k) default) q) (seen.getD k default) tol := fun k => by rw [← hNK, ← hix, ← hn]; rfl
 have hat : ∀ k : Nat, k ≤ 1000 → ∀ W : World, Calls Tryz.prog 68 #[.int .i64 (if bk then (fr : Int) - (k : Int) else (fr : Int) + (k : Int)), .int .i64 (n : Int)] W fun e w' => e = .returned (.int .i64 ((ix k : Nat) : Int)) ∧ W = w' := fun k hk W => by
  have h := qIK (if bk then (fr : Int) - (k : Int) else (fr : Int) + (k : Int)) n W (by omega) (by omega) (by unfold Mid; split <;> omega);rw [← qD8 (by omega)] at h;rw [← hix];exact h
 obtain ⟨t1, t2⟩ := ht;obtain ⟨F, hF⟩ : ∃ b, fitT P seen tol ⟨pa, fr, q, bk⟩ = b := ⟨_, rfl⟩;rw [hF] at hno hyes ⊢;have hnn : ¬ (n : Int) = 0 := by omega
 have hnn2 : ¬ n = 0 := by omega
 have hnp : (0 : Int) < (n : Int) := by omega
 have hI0 : Below w.heap.size w w ∧ ∀ j, j < 0 → NK j = true := ⟨Below.refl _ _, fun j h => absurd h (Nat.not_lt_zero _)⟩;have ⟨h1', h2', hP', hS', hn', hsn', hI0', hno'⟩ := hyd8 h1 h2 hP hS hn hsn hI0 hno;have ⟨hyes', hnk', hF', hlt0', hix', hNK'⟩ := hyd6 hyes hnk hF hlt0 hix hNK;clear hNK hix hlt0 hF hnk hyes hno hI0 hsn hn hS hP h2 h1;go_enter Tryz.func34, Tryz.ntmps34
 cases bk
 all_goals
  simp only [Bool.false_eq_true, if_false, if_true] at hat;have hat' := hyd1 hat;clear hat;go_wp2_with (fail);go_loopw [14] (fun jx wr => ∃ k : Nat, k ≤ sn ∧ jx = .int .i64 (k : Int) ∧ Hid (Below w.heap.size w wr ∧ ∀ j, j < k → NK j = true)) (fun jx _ => sn - (intOf jx).toNat)
  case atStart => exact ⟨0, Nat.zero_le _, rfl, hI0'⟩
  case round =>
   obtain ⟨k, hk, rfl, hI⟩ := hrel;obtain ⟨hbw, hall⟩ := hI.out
   by_cases hlt : k < sn
   ·have hil := hlt0'.out k;have hka := hat'.out k (by omega);have hnk := hnk'.out k;obtain ⟨i, hi⟩ : ∃ i, ix k = i := ⟨_, rfl⟩;rw [hi] at hil hnk hka;have hiP : i < P.length := by rw [hn'.out]; exact hil
    have hkS : k < seen.length := by rw [hsn'.out]; exact hlt
    rw [qID hiP, qID hkS] at hnk;have hyb := hP'.out _ (List.getElem_mem hiP);have hxb := hS'.out _ (List.getElem_mem hkS);obtain ⟨bs, os, cs, heq, hbs, g0, g1⟩ := SpotsV.at (h2'.out.le hbw) hkS;rw [hsn'.out] at heq;injection heq with e1 e2 e3;subst e1 e3;clear e2;obtain ⟨bp, op, cp, heq, hbp, p0, p1⟩ := SpotsV.at (h1'.out.le hbw) hiP;rw [hn'.out] at heq;injection heq with e1 e2 e3;subst e1 e3;clear e2;obtain ⟨⟨x1, x2⟩, hx⟩ : ∃ x, seen[k] = x := ⟨_, rfl⟩;obtain ⟨⟨y1, y2⟩, hy⟩ : ∃ y, P[i] = y := ⟨_, rfl⟩;rw [hx] at g0 g1 hxb hnk;rw [hy] at p0 p1 hyb hnk;dsimp only at g0 g1 p0 p1 hxb hyb;obtain ⟨Wa, hWa, hba, ka⟩ := newb wr (.cells #[.int .i64 y1, .int .i64 y2] 41);have hbwa := belT hbw hba;have j1 : (k : Int) < (sn : Int) := by omega
    have j2 : (0 : Int) ≤ (k : Int) := by omega
    have j3 : (i : Int) < (n : Int) := by omega
    have j4 : (0 : Int) ≤ (i : Int) := by omega
    have s1 : IntKind.i64.wrap ((fr : Int) + (k : Int)) = (fr : Int) + (k : Int) := IntWalk.i64_in _ (by omega);have s2 : IntKind.i64.wrap ((fr : Int) - (k : Int)) = (fr : Int) - (k : Int) := IntWalk.i64_in _ (by omega);have hQ0 : FtQ wr wr.heap.size (y1, y2) 0 Wa := ⟨hba, ka⟩
    have hg : ∀ m W, FtQ wr wr.heap.size (y1, y2) m W → Below w.heap.size w W ∧ W.cell? ⟨bs, os + k * 2, none⟩ = some (.int .i64 x1) ∧ W.cell? ⟨bs, os + k * 2 + 1, none⟩ = some (.int .i64 x2) := fun m W h =>
     ⟨belT hbw h.bw, (h.bw.cell (p := ⟨bs, os + k * 2, none⟩) hbs).trans g0, (h.bw.cell (p := ⟨bs, os + k * 2 + 1, none⟩) hbs).trans g1⟩
    have hrb := qFV (x := (y1, y2)) hyb;have ⟨hI', hall', hbw', hnk', hi', hx', hy', hba'⟩ := hyd8 hI hall hbw hnk hi hx hy hba;have ⟨ka', hbwa', hbp', hbs', hka', hQ0', hg', hrb'⟩ := hyd8 ka hbwa hbp hbs hka hQ0 hg hrb;clear hrb hg hQ0 hka hbs hbp hbwa ka hba hy hx hi hnk hbw hall hI;go_wp2_with (first | (go_at_call 68; refine (hka'.out _).mono ?_; rintro e w' ⟨rfl, rfl⟩));clear hWa p0 p1 g0 g1;obtain ⟨FQ, hFQ⟩ : ∃ f : Nat → World → Prop, (fun m W => FtQ wr wr.heap.size (y1, y2) m W) = f := ⟨_, rfl⟩
    have hst : ∀ m W a b, FQ m W → (rotP (y1, y2) m).1 = a → (rotP (y1, y2) m).2 = b → FQ (m + 1) ((W.setCell ⟨wr.heap.size, 0, none⟩ (.int .i64 (-b))).setCell ⟨wr.heap.size, 1, none⟩ (.int .i64 a)) := fun m W a b h1 h2 h3 => by
     subst hFQ;exact FtQ.step h1 h2 h3
    have hkx : ∀ m W, FQ m W → W.heap[wr.heap.size]? = some (.cells #[.int .i64 (rotP (y1, y2) m).1, .int .i64 (rotP (y1, y2) m).2] 41) := fun m W h => by
     subst hFQ;exact h.kx
    have hgg : ∀ m W, FQ m W → Below w.heap.size w W ∧ W.cell? ⟨bs, os + k * 2, none⟩ = some (.int .i64 x1) ∧ W.cell? ⟨bs, os + k * 2 + 1, none⟩ = some (.int .i64 x2) := fun m W h => by
     subst hFQ;exact hg'.out m W h
    have hFQ0 : FQ 0 Wa := by rw [← hFQ]; exact hQ0'.out
    obtain ⟨X, hX⟩ : ∃ X, wr.heap.size = X := ⟨_, rfl⟩;rw [hX] at hst hkx ⊢;have ⟨hst', hkx', hgg', hFQ0', hFQ', hX'⟩ := hyd6 hst hkx hgg hFQ0 hFQ hX;clear hX hFQ hFQ0 hgg hkx hst;go_loopw [17] (fun qx wv => ∃ m : Nat, m ≤ q ∧ qx = .int .i64 (m : Int) ∧ Hid (FQ m wv)) (fun qx _ => q - (intOf qx).toNat)
    case atStart => exact ⟨0, Nat.zero_le _, rfl, hFQ0'⟩
    case round =>
     obtain ⟨m, hm, rfl, hIm⟩ := hrel;have kx := hkx'.out m _ hIm.out;obtain ⟨hbm, g0, g1⟩ := hgg'.out m _ hIm.out;obtain ⟨c0, c1⟩ := pc2 kx;have hl := hrb'.out m;obtain ⟨a, ha⟩ : ∃ a, (rotP (y1, y2) m).1 = a := ⟨_, rfl⟩;obtain ⟨b, hb⟩ : ∃ b, (rotP (y1, y2) m).2 = b := ⟨_, rfl⟩;rw [ha] at c0 hl;rw [hb] at c1 hl;have f0 := pfrz kx 0;have f1 := pfrz kx 1
     by_cases hmq : m < q
     ·have hN := hst'.out m _ a b hIm.out ha hb;have s3 : IntKind.i64.wrap (-b) = -b := IntWalk.i64_in _ (by omega);have jm : (m : Int) < (q : Int) := by omega
      have ⟨hIm', kx', hbm', ha', hb', hN', hl'⟩ := hyd7 hIm kx hbm ha hb hN hl;clear hl hN hb ha hbm kx hIm;go_wp2;go_roundw
      case rel => exact ⟨m + 1, by omega, by go_num, hN'⟩
      case measure => simp [intOf]; omega
     ·obtain rfl : m = q := by omega
      have hnk2 := hnk'.out;rw [show rotP (y1, y2) m = (a, b) from Prod.ext ha hb] at hnk2;have hs0 : qFW (a, b) (x1, x2) tol = (qAJ (a - x1) (-tol) tol && qAJ (b - x2) (-tol) tol) := rfl;rw [hs0] at hnk2;obtain ⟨N1, hN1⟩ : ∃ B, qAJ (a - x1) (-tol) tol = B := ⟨_, rfl⟩;obtain ⟨N2, hN2⟩ : ∃ B, qAJ (b - x2) (-tol) tol = B := ⟨_, rfl⟩;rw [hN1, hN2] at hnk2;have kn1 := fun W => qGk a x1 tol W (by omega) (by omega) (by omega);have kn2 := fun W => qGk b x2 tol W (by omega) (by omega) (by omega);rw [hN1] at kn1;rw [hN2] at kn2;clear f0 f1 hs0;have ⟨hIm', kx', hbm', ha', hb', hl', hnk2', hN1'⟩ := hyd8 hIm kx hbm ha hb hl hnk2 hN1;have ⟨hN2', kn1', kn2'⟩ := hyd3 hN2 kn1 kn2;clear kn2 kn1 hN2 hN1 hnk2 hl hb ha hbm kx hIm
      cases N1 with
      | false =>
       obtain rfl : F = false := hno'.out k hlt (by rw [hnk2'.out]; rfl);go_wp2;go_quiet (first | (go_at_call 69; with_reducible exact qCT (kn1'.out _)) | (go_at_call 69; with_reducible exact qCT (kn2'.out _)));have hbq := qBU hbm'.out nq;have hbq' := hyd1 hbq;clear hbq;go_wp2;go_ret;exact ⟨rfl, hbq'.out⟩
      | true =>
       cases N2 with
       | false =>
        obtain rfl : F = false := hno'.out k hlt (by rw [hnk2'.out]; rfl);go_wp2;go_quiet (first | (go_at_call 69; with_reducible exact qCT (kn1'.out _)) | (go_at_call 69; with_reducible exact qCT (kn2'.out _)));have hbq := qBU hbm'.out nq;have hbq' := hyd1 hbq;clear hbq;go_wp2;go_ret;exact ⟨rfl, hbq'.out⟩
       | true =>
        have hallN : ∀ j, j < k + 1 → NK j = true := fun j hj => by
         by_cases e : j = k
         ·subst e; rw [hnk2'.out]; rfl
         ·exact hall'.out j (by omega)
        have hallN' := hyd1 hallN;clear hallN;go_wp2;go_quiet (first | (go_at_call 69; with_reducible exact qCT (kn1'.out _)) | (go_at_call 69; with_reducible exact qCT (kn2'.out _)));have hbq := qBU hbm'.out nq;have hbq' := hyd1 hbq;clear hbq;go_wp2;go_roundw
        case rel => exact ⟨k + 1, by omega, by go_num, Lib.hid ⟨hbq'.out, hallN'.out⟩⟩
        case measure => simp [intOf]; omega
   ·obtain rfl : sn = k := by omega
    obtain rfl : F = true := hyes'.out hall;have ⟨hI', hbw', hall'⟩ := hyd3 hI hbw hall;clear hall hbw hI;go_wp2;go_ret;exact ⟨rfl, hbw'.out⟩
end Go.Proofs.YtabfaobakmjiaaaGreat
