/- Whether spots are traced to points in a way: read.traced. -/
import Derived.Test.YtabfaobakmjiaaaGreatPk48
namespace Go.Proofs.YtabfaobakmjiaaaGreat
set_option maxRecDepth 100000
set_option maxHeartbeats 4000000
open Go.RowKit
set_option linter.unusedVariables false
set_option linter.unusedSimpArgs false
theorem qID {L : List Sp} {k : Nat} (h : k < L.length) : L.getD k default = L[k] := by rw [List.getD_eq_getElem?_getD, List.getElem?_eq_getElem h]; rfl
attribute [local go_sem high] qIx
theorem qIy (P seen : List Sp) (pa fr q : Nat) (bk : Bool) (tol : Int) (v1 v2 : Value) (w : World) (h1 : SpotsV w v1 P) (h2 : SpotsV w v2 seen) (hf : fr < P.length) (hq : q ≤ 3)
  (hP : ∀ s ∈ P, (-10000 ≤ s.1 ∧ s.1 ≤ 10000) ∧ (-10000 ≤ s.2 ∧ s.2 ≤ 10000)) (hS : ∀ s ∈ seen, (-10000 ≤ s.1 ∧ s.1 ≤ 10000) ∧ (-10000 ≤ s.2 ∧ s.2 ≤ 10000)) (ht : 0 ≤ tol ∧ tol ≤ 1000) :
  Calls Tryz.prog 31 #[v1, v2, .agg #[.int .i64 (pa : Int), .int .i64 (fr : Int), .int .i64 (q : Int), .bool bk], .int .i64 tol] w fun e w' => e = .returned (.bool (fitT P seen tol ⟨pa, fr, q, bk⟩)) ∧ Below w.heap.size w w' := by
 obtain ⟨A1, c1, rfl, hP1⟩ := h1.form;obtain ⟨A2, c2, rfl, hS1⟩ := h2.form;obtain ⟨n, hn⟩ : ∃ n, P.length = n := ⟨_, rfl⟩;obtain ⟨sn, hsn⟩ : ∃ n, seen.length = n := ⟨_, rfl⟩;rw [hn] at h1 hP1 hf;rw [hsn] at h2 hS1;rw [hn, hsn];obtain ⟨S, hSS⟩ : ∃ S : Int, (((if bk then n - 1 else 1 : Nat)) : Int) = S := ⟨_, rfl⟩;have hst1 : 0 ≤ S ∧ S ≤ 1000 := by rw [← hSS]; cases bk <;> simp <;> omega
 obtain ⟨ix, hix⟩ : ∃ f : Nat → Nat, (fun k => idxT n fr bk k) = f := ⟨_, rfl⟩;obtain ⟨NK, hNK⟩ : ∃ f : Nat → Bool, (fun k => qGi P seen tol ⟨pa, fr, q, bk⟩ k) = f := ⟨_, rfl⟩;have hz0 : ((ix 0 : Nat) : Int) = (fr : Int) := by rw [← hix]; show ((idxT n fr bk 0 : Nat) : Int) = _; rw [qKw hf]
 have hlt0 : ∀ k, ix k < n := fun k => by rw [← hix]; exact qJ5 (by omega)
 have hsu : ∀ k, (((ix k : Nat) : Int) + S) % (n : Int) = ((ix (k + 1) : Nat) : Int) := fun k => by
  rw [← hix];show (((idxT n fr bk k : Nat) : Int) + S) % (n : Int) = ((idxT n fr bk (k + 1) : Nat) : Int);rw [qKx (by omega), ← hSS, Int.natCast_emod, Int.natCast_add]
 have hno : ∀ k, k < sn → NK k = false → fitT P seen tol ⟨pa, fr, q, bk⟩ = false := fun k hk h => qJ6 (by rw [hsn]; exact hk) (by rw [← hNK] at h; exact h);have hyes : (∀ k, k < sn → NK k = true) → fitT P seen tol ⟨pa, fr, q, bk⟩ = true := fun h => qIw fun k hk => by have h9 := h k (by rw [← hsn]; exact hk); rw [← hNK] at h9; exact h9
 have hnk : ∀ k, NK k = qFW (rotP (P.getD (ix k) default) q) (seen.getD k default) tol := fun k => by rw [← hNK, ← hix, ← hn]; rfl
 obtain ⟨W1, hW1, hb1, k1⟩ := newb w (.cells #[.int .i64 (pa : Int), .int .i64 (fr : Int), .int .i64 (q : Int), .bool bk] 37);have hI0 : Below W1.heap.size W1 W1 ∧ ∀ j, j < 0 → NK j = true := ⟨Below.refl _ _, fun j h => absurd h (Nat.not_lt_zero _)⟩;obtain ⟨c0, c1', c2', c3⟩ := pc4 k1;have w1 : bk = true → IntKind.i64.wrap ((n : Int) - 1) = S := fun h => by rw [← hSS, h]; simp only [if_true]; rw [IntWalk.i64_in _ (by omega)]; omega
 have w2 : bk = false → S = 1 := fun h => by rw [← hSS, h]; rfl
 obtain ⟨t1, t2⟩ := ht;obtain ⟨F, hF⟩ : ∃ b, fitT P seen tol ⟨pa, fr, q, bk⟩ = b := ⟨_, rfl⟩;rw [hF] at hno hyes ⊢;have hnn : ¬ (n : Int) = 0 := by omega
 have hnn2 : ¬ n = 0 := by omega
 have hnp : (0 : Int) < (n : Int) := by omega
 have ⟨h1', h2', hP', hS', hn', hsn', hSS', hb1'⟩ := hyd8 h1 h2 hP hS hn hsn hSS hb1;have ⟨k1', hI0', hz0', hsu', hno', hyes', hnk', hF'⟩ := hyd8 k1 hI0 hz0 hsu hno hyes hnk hF;have ⟨hlt0', hix', hNK'⟩ := hyd3 hlt0 hix hNK;clear hNK hix hlt0 hF hnk hyes hno hsu hz0 hI0 k1 hb1 hSS hsn hn hS hP h2 h1;go_enter Tryz.func31, Tryz.ntmps31
 cases bk
 all_goals
  first
   | (have w3 := w1 rfl; clear w1 w2)
   | (obtain rfl := w2 rfl; clear w1 w2)
  go_wp2_with (fail);clear hW1 c0 c1' c2' c3;go_loopw [23, 9] (fun jx ax wr => ∃ k : Nat, k ≤ sn ∧ jx = .int .i64 (k : Int) ∧ ax = .int .i64 ((ix k : Nat) : Int) ∧ Hid (Below W1.heap.size W1 wr ∧ ∀ j, j < k → NK j = true)) (fun jx _ _ => sn - (intOf jx).toNat)
  case atStart => exact ⟨0, Nat.zero_le _, rfl, by rw [hz0'.out], hI0'⟩
  case round =>
   obtain ⟨k, hk, rfl, rfl, hI⟩ := hrel;obtain ⟨hb1r, hall⟩ := hI.out;have hbw := belT hb1'.out hb1r
   by_cases hlt : k < sn
   ·have hil := hlt0'.out k;have hnx := hsu'.out k;have hnk := hnk'.out k;obtain ⟨i, hi⟩ : ∃ i, ix k = i := ⟨_, rfl⟩;obtain ⟨i2, hi2⟩ : ∃ i, ix (k + 1) = i := ⟨_, rfl⟩;rw [hi, hi2] at hnx;rw [hi] at hil hnk ⊢;have hiP : i < P.length := by rw [hn'.out]; exact hil
    have hkS : k < seen.length := by rw [hsn'.out]; exact hlt
    rw [qID hiP, qID hkS] at hnk;have hyb := hP'.out _ (List.getElem_mem hiP);have hxb := hS'.out _ (List.getElem_mem hkS);obtain ⟨bs, os, cs, heq, hbs, g0, g1⟩ := SpotsV.at (h2'.out.le hbw) hkS;rw [hsn'.out] at heq;injection heq with e1 e2 e3;subst e1 e3;clear e2;obtain ⟨bp, op, cp, heq, hbp, p0, p1⟩ := SpotsV.at (h1'.out.le hbw) hiP;rw [hn'.out] at heq;injection heq with e1 e2 e3;subst e1 e3;clear e2;obtain ⟨⟨x1, x2⟩, hx⟩ : ∃ x, seen[k] = x := ⟨_, rfl⟩;obtain ⟨⟨y1, y2⟩, hy⟩ : ∃ y, P[i] = y := ⟨_, rfl⟩;rw [hx] at g0 g1 hxb hnk;rw [hy] at p0 p1 hyb hnk;dsimp only at g0 g1 p0 p1 hxb hyb;obtain ⟨Wa, hWa, hba, ka⟩ := newb wr (.cells #[.int .i64 x1, .int .i64 x2] 41);have hb1a := belT hb1r hba;have hp0 := (hba.cell (p := ⟨bp, op + i * 2, none⟩) hbp).trans p0;have hp1 := (hba.cell (p := ⟨bp, op + i * 2 + 1, none⟩) hbp).trans p1;have hbpa : bp < Wa.heap.size := Nat.lt_of_lt_of_le hbp hba.size;have hT := blk hb1a k1'.out;have ne1 : ¬ bp = Wa.heap.size := Nat.ne_of_lt hbpa;have ne2 : ¬ Wa.heap.size = bp := Nat.ne_of_gt hbpa;have ne3 : ¬ w.heap.size = Wa.heap.size := Nat.ne_of_lt (gsl hT);have ne4 : ¬ Wa.heap.size = w.heap.size := Nat.ne_of_gt (gsl hT);have hrb := qFV (x := (y1, y2)) hyb q;obtain ⟨⟨r1, r2⟩, hr⟩ : ∃ r, rotP (y1, y2) q = r := ⟨_, rfl⟩;rw [hr] at hnk hrb;dsimp only at hrb;have kq := fun W => qHP (y1, y2) q W hyb (by omega);rw [hr] at kq;have hS9 : ∀ w', Below Wa.heap.size Wa w' → w'.cell? ⟨bp, op + i * 2, none⟩ = some (.int .i64 y1) ∧ w'.cell? ⟨bp, op + i * 2 + 1, none⟩ = some (.int .i64 y2) ∧ w'.cell? ⟨w.heap.size, 2, none⟩ = some (.int .i64 (q : Int)) := fun w' hb => ⟨(hb.cell (p := ⟨bp, op + i * 2, none⟩) hbpa).trans hp0, (hb.cell (p := ⟨bp, op + i * 2 + 1, none⟩) hbpa).trans hp1, (pc4 (blk hb hT)).2.2.1⟩
    obtain ⟨u1, u2, u3⟩ := hS9 Wa (Below.refl _ _);have kqA := kq Wa.drew;have kqB := kq (Wa.alloc (.cells #[.int .i64 0, .int .i64 0] 41)).drew;have hbA : Below Wa.heap.size Wa Wa.drew := (Below.refl Wa.heap.size Wa).drew;have hbB : Below Wa.heap.size Wa (Wa.alloc (.cells #[.int .i64 0, .int .i64 0] 41)).drew := (alc1 Wa _).drew;have kz0 : (Wa.alloc (.cells #[.int .i64 0, .int .i64 0] 41)).drew.heap[Wa.heap.size]? = some (.cells #[.int .i64 0, .int .i64 0] 41) := qD4 Wa _;have j1 : (k : Int) < (sn : Int) := by omega
    have j2 : (0 : Int) ≤ (k : Int) := by omega
    have j3 : (i : Int) < (n : Int) := by omega
    have j4 : (0 : Int) ≤ (i : Int) := by omega
    dsimp only at kqA kqB;clear p0 p1 hp0 hp1;have ⟨hI', hb1r', hall', hbw', hnx', hnk', hi', hi2'⟩ := hyd8 hI hb1r hall hbw hnx hnk hi hi2;have ⟨hx', hy', hba', ka', hb1a', hT', hr', kq'⟩ := hyd8 hx hy hba ka hb1a hT hr kq;have ⟨hS9', kqA', kqB', hbA', hbB', kz0', hbp', hbs'⟩ := hyd8 hS9 kqA kqB hbA hbB kz0 hbp hbs;clear hbs hbp kz0 hbB hbA kqB kqA hS9 kq hr hT hb1a ka hba hy hx hi2 hi hnk hnx hbw hall hb1r hI;go_wp2_with (fail);clear hWa g0 g1
    go_region_held3 (fun w' => w'.cell? ⟨bp, op + i * 2, none⟩ = some (.int .i64 y1) ∧ w'.cell? ⟨bp, op + i * 2 + 1, none⟩ = some (.int .i64 y2) ∧ w'.cell? ⟨w.heap.size, 2, none⟩ = some (.int .i64 (q : Int))) (go_keep) (first | (go_at_call 61; with_reducible refine (kqA'.out).mono ?_; rintro e w9 ⟨rfl, hb9⟩; have hb99 := belT hbA'.out hb9; obtain ⟨t1, t2, t3⟩ := hS9'.out w9 hb99; have hb99' := Lib.hid hb99; clear hb9 hb99) | (go_at_call 61; with_reducible refine (kqB'.out).mono ?_; rintro e w9 ⟨rfl, hb9⟩; have hb99 := belT hbB'.out hb9; obtain ⟨t1, t2, t3⟩ := hS9'.out w9 hb99; have kz := blk hb9 kz0'.out; obtain ⟨z0, z1⟩ := pc2 kz; have fz0 := pfrz kz 0; have fz1 := pfrz kz 1; have hb99' := Lib.hid hb99; have kz' := Lib.hid kz; clear hb9 hb99 kz))
    all_goals
     rename_i hHeld;clear hHeld
     first
      | (
       have hb6 : Below Wa.heap.size Wa (w9.alloc (.cells #[.int .i64 r1, .int .i64 r2] 41)) := belT hb99'.out (alc1 w9 _);have kX : (w9.alloc (.cells #[.int .i64 r1, .int .i64 r2] 41)).heap[w9.heap.size]? = some (.cells #[.int .i64 r1, .int .i64 r2] 41) := qD4 w9 _;generalize (w9.alloc (.cells #[.int .i64 r1, .int .i64 r2] 41)) = W6 at hb6 kX ⊢;obtain ⟨X, hX⟩ : ∃ X, X = w9.heap.size := ⟨_, rfl⟩;rw [← hX] at kX ⊢
       clear hX t1 t2 t3 hb99')
      | (
       have hb6 : Below Wa.heap.size Wa ((w9.setCell ⟨Wa.heap.size, 0, none⟩ (.int .i64 r1)).setCell ⟨Wa.heap.size, 1, none⟩ (.int .i64 r2)) := Below.setCell (Below.setCell hb99'.out (p := ⟨Wa.heap.size, 0, none⟩) (Nat.le_refl _) _) (p := ⟨Wa.heap.size, 1, none⟩) (Nat.le_refl _) _;have kX : ((w9.setCell ⟨Wa.heap.size, 0, none⟩ (.int .i64 r1)).setCell ⟨Wa.heap.size, 1, none⟩ (.int .i64 r2)).heap[Wa.heap.size]? = some (.cells #[.int .i64 r1, .int .i64 r2] 41) := qAp kz'.out;generalize ((w9.setCell ⟨Wa.heap.size, 0, none⟩ (.int .i64 r1)).setCell ⟨Wa.heap.size, 1, none⟩ (.int .i64 r2)) = W6 at hb6 kX ⊢;obtain ⟨X, hX⟩ : ∃ X, X = Wa.heap.size := ⟨_, rfl⟩;rw [← hX] at kX ⊢
       clear hX t1 t2 t3 hb99' z0 z1 fz0 fz1 kz')
     have hb1n := belT hb1a'.out hb6;have hbwn := belT hb1'.out hb1n;have ka6 := blk hb6 ka'.out;obtain ⟨a0, a1⟩ := pc2 ka6;obtain ⟨b0, b1⟩ := pc2 kX;clear u1 u2 u3;have s1 : IntKind.i64.wrap (x1 - r1) = x1 - r1 := IntWalk.i64_in _ (by omega);have s2 : IntKind.i64.wrap (r1 - x1) = r1 - x1 := IntWalk.i64_in _ (by omega);have s3 : IntKind.i64.wrap (x2 - r2) = x2 - r2 := IntWalk.i64_in _ (by omega);have s4 : IntKind.i64.wrap (r2 - x2) = r2 - x2 := IntWalk.i64_in _ (by omega);obtain ⟨M, hM⟩ : ∃ M, max (x1 - r1) (max (r1 - x1) (max (x2 - r2) (r2 - x2))) = M := ⟨_, rfl⟩;have hnk2 := hnk'.out
     have hN : qFW (r1, r2) (x1, x2) tol = decide (M ≤ tol) := by
      unfold qFW qAJ;rw [Bool.eq_iff_iff];simp only [Bool.and_eq_true, decide_eq_true_eq];omega
     rw [hN] at hnk2;clear hN
     by_cases hgt : tol < M
     ·obtain rfl : F = false := hno'.out k hlt (by rw [hnk2]; exact decide_eq_false (by omega));have ⟨hb6', kX', hb1n', hbwn', ka6', hnk2'⟩ := hyd6 hb6 kX hb1n hbwn ka6 hnk2;clear hnk2 ka6 hbwn hb1n kX hb6;go_wp2;go_ret;exact ⟨rfl, hbwn'.out⟩
     ·have hallN : ∀ j, j < k + 1 → NK j = true := fun j hj => by
       by_cases e : j = k
       ·subst e; rw [hnk2]; exact decide_eq_true (by omega)
       ·exact hall'.out j (by omega)
      have hnx := hnx'.out
      first
       | (
        have s5 : IntKind.i64.wrap ((i : Int) + S) = (i : Int) + S := IntWalk.i64_in _ (by omega);have s6 : ((i : Int) + S).tmod (n : Int) = (i2 : Int) := by rw [Int.tmod_eq_emod_of_nonneg (by omega)]; exact hnx
        have s7 : (0 : Int) ≤ (i : Int) + S := by omega)
       | (
        have s5 : IntKind.i64.wrap ((i : Int) + 1) = (i : Int) + 1 := IntWalk.i64_in _ (by omega);have s6 : ((i : Int) + 1).tmod (n : Int) = (i2 : Int) := by rw [Int.tmod_eq_emod_of_nonneg (by omega)]; exact hnx
        have s7 : (0 : Int) ≤ (i : Int) + 1 := by omega)
      have ⟨hb6', kX', hb1n', hbwn', ka6', hnk2', hallN'⟩ := hyd7 hb6 kX hb1n hbwn ka6 hnk2 hallN;clear hallN hnk2 ka6 hbwn hb1n kX hb6;go_wp2;go_roundw
      case rel => exact ⟨k + 1, by omega, by go_num, by rw [hi2'.out], Lib.hid ⟨hb1n'.out, hallN'.out⟩⟩
      case measure => simp [intOf]; omega
   ·obtain rfl : sn = k := by omega
    obtain rfl : F = true := hyes'.out hall;have ⟨hI', hb1r', hbw', hall'⟩ := hyd4 hI hb1r hbw hall;clear hall hbw hb1r hI;go_wp2;go_ret;exact ⟨rfl, hbw'.out⟩
end Go.Proofs.YtabfaobakmjiaaaGreat
