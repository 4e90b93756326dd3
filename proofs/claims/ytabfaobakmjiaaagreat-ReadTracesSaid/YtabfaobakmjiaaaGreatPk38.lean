/- The reference's paths: CheckPath, Pace, Order, Great; Around. The reference's paths: Pace, Order, Great; Around. -/
import Derived.Test.YtabfaobakmjiaaaGreatPk32
import Derived.Test.YtabfaobakmjiaaaGreatPk37
namespace Go.Proofs.YtabfaobakmjiaaaGreat
set_option maxRecDepth 100000
set_option maxHeartbeats 4000000
open Go.RowKit Go.Shelf
set_option linter.unusedVariables false
set_option linter.unusedSimpArgs false
attribute [local go_sem] Oper.semAt_some
attribute [local go_sem ↓] Go.wp_at_zero Go.wp_at_succ
theorem qGc {w : World} {v : Value} {l : List ArmA} {tv : Nat → Array Value} (h : qKD w v l tv) {j : Nat} (hj : j < l.length) : ∃ b off c, v = .slice (some ⟨b, off, none⟩) l.length c ∧ c ≤ maxLen ∧ b < w.heap.size ∧ ArmC w b (off + j * 9) (l.getD j default).k (tv j) ∧ IsTurnA w (.agg (tv j)) (l.getD j default).c ∧ -9223372036854775808 ≤ (l.getD j default).k ∧ (l.getD j default).k ≤ 9223372036854775807 := by
 obtain ⟨A, c, rfl, hlc, hcm, hAN, hki, htv, hr⟩ := h;obtain ⟨b, off, rfl, hb, hcc⟩ := hr (by omega);have hg0 : l.getD j default = l[j] := by simp [List.getD_eq_getElem?_getD, List.getElem?_eq_getElem hj]
 rw [hg0];exact ⟨b, off, c, rfl, hcm, hb, hcc j hj, htv j hj, hki _ (List.getElem_mem hj)⟩
theorem qGd {P : Program} {f : FuncId} {args : Array Value} {W : World} {v : Value} (h : Calls P f args W fun e w' => e = .returned v ∧ Le W w') : Calls P f args W fun e w' => e = .returned v ∧ Below W.heap.size W w' := h
theorem qHJ (l : List ArmA) (v : Value) (w : World) (hv : ArmsL w v l) :
  Calls Tryz.prog 62 #[v] w fun e w' => e = .returned (.int .i64 (qB3 l)) ∧ Le w w' := by
 obtain ⟨tv, hvv⟩ := hv.vals;have hvv' := hyd1 hvv;obtain ⟨A, c, rfl, hlc, hcm, -⟩ := hvv;unfold maxLen at hcm
 by_cases hbig : 24 < l.length
 ·have e1 : qB3 l = 4 := by unfold qB3; rw [if_pos hbig]
  rw [e1];have e1' := hyd1 e1;clear e1;go_enter Tryz.func62, Tryz.ntmps62;go_wp2;go_ret;exact ⟨rfl, Le.refl _⟩
 ·have e1 : qB3 l = if qCM l then 0 else 20 := by unfold qB3; rw [if_neg hbig]
  obtain ⟨E, hE⟩ : ∃ E, qB3 l = E := ⟨_, rfl⟩;have eOk : qCM l = true → E = 0 := fun h => by rw [← hE, e1, h]; rfl
  have eNo : qCM l = false → E = 20 := fun h => by rw [← hE, e1, h]; rfl
  rw [hE];have hb24 : ¬ (24 : Int) < (l.length : Int) := by omega
  have ⟨e1', hE', eOk', eNo', hv'⟩ := hyd5 e1 hE eOk eNo hv;clear hv eNo eOk hE e1;go_enter Tryz.func62, Tryz.ntmps62;go_wp2;go_loopw [3] (fun i wr => ∃ k : Nat, k ≤ l.length ∧ i = .int .i64 k ∧ Hid (Le w wr) ∧ Hid (∀ j, j < k → qCc l j = true)) (fun i _ => l.length - (intOf i).toNat)
  case atStart => exact ⟨0, Nat.zero_le _, rfl, Lib.hid (Le.refl _), Lib.hid (fun j h => absurd h (Nat.not_lt_zero j))⟩
  case round =>
   obtain ⟨k, hk, rfl, hle, hok⟩ := hrel
   by_cases hlt : k < l.length
   ·obtain ⟨b, off, c', heq, -, hb, hac, hta, hk1, hk2⟩ := qGc hvv'.out hlt;injection heq with q1 q2 q3;subst q1 q3;clear q2;obtain ⟨s1, A1, n1, c1, t1, B1, m1, d1, s2, A2, n2, c2, t2, B2, m2, d2, he, a0, a1, a2, a3, a4, a5, a6, a7, a8⟩ := hac.same (W := wr) fun i => hle.out.cell (p := ⟨b, i, none⟩) hb;have hin := qB7 _ _ wr (hta.le hle.out);rw [he] at hin;have hstep := qG8 hok.out;have hwit := fun n lo hi W => qAQ n lo hi W;generalize hKK : (l.getD k default).k = kk at a0 hk1 hk2 hstep;generalize hYC : (l.getD k default).c = yc at hin hstep;clear hac;have i1 : (k : Int) < (l.length : Int) := by omega
    have i2 : (0 : Int) ≤ (k : Int) := by omega
    have hbz : b < wr.heap.size := Nat.lt_of_lt_of_le hb hle.out.size;have hcell0 := fun (W : World) (h : Le wr W) => (h.cell (p := ⟨b, off + k * 9, none⟩) hbz).trans a0
    have hgoal : (qG7 l k < kk ∧ kk ≤ 64 ∧ ∃ g, tval yc = some g ∧ qAI g ≠ 0) → (∀ j, j < k + 1 → qCc l j = true) := fun h j hj => by
     by_cases hjk : j = k
     ·rw [hjk]; exact hstep.2 h
     ·exact hok.out j (by omega)
    have hbad : ¬ (qG7 l k < kk ∧ kk ≤ 64 ∧ ∃ g, tval yc = some g ∧ qAI g ≠ 0) → E = 20 := fun h => eNo'.out (qG9 hlt (by
     rw [Bool.eq_false_iff]
     exact fun hc => h (hstep.1 hc)))
    have ⟨hin', hstep', hKK', hYC', hcell0', hgoal', hbad', he'⟩ := hyd8 hin hstep hKK hYC hcell0 hgoal hbad he;clear he hbad hgoal hcell0 hYC hKK hstep hin;go_wp2_with (fail);go_at_call 113;refine hin'.out.mono ?_;rintro e w1 ⟨hle1, vq, rfl, hform, hval⟩;obtain ⟨x1, X1, y1, z1, X2, y2, z2, x3, X3, y3, z3, X4, y4, z4, rfl⟩ := hform;obtain ⟨W2, hW2, hle2, kZ⟩ := al1 w1 (.cells #[.bool x1, .slice X1 y1 z1, .slice X2 y2 z2, .bool x3, .slice X3 y3 z3, .slice X4 y4 z4] 202);have hle02 := hle1.trans hle2;clear a0 a1 a2 a3 a4 a5 a6 a7 a8;obtain ⟨ι, fam, hne, hf1, hf2, hf0⟩ := qKZ _ W2 (Nat.le_refl _);have hfl := fun n => hle02.trans (hf1 n);have c0 := fun n => hcell0'.out _ (hfl n);have Z := fun n => qAC ((Below.block (hf1 n) _ (gsl kZ)).trans kZ);have Z0 := fun n => (Z n).1;have Z1 := fun n => (Z n).2.1;have Z2 := fun n => (Z n).2.2.1;have Z3 := fun n => (Z n).2.2.2.1;have Z4 := fun n => (Z n).2.2.2.2.1;have Z5 := fun n => (Z n).2.2.2.2.2;clear Z
    rcases qCK yc with ⟨g, hg⟩ | hg
    ·rw [hg];have hnil := fun n => qGC g _ (fam n) ((hval g hg).le (hle2.trans (hf1 n)));obtain ⟨bz, hbzz⟩ : ∃ b, decide (qAI g = 0) = b := ⟨_, rfl⟩;rw [hbzz] at hnil;simp only [Option.isSome_some];have ⟨hval', hf1', hf2', hf0', hfl', kZ', hle1', hle2'⟩ := hyd8 hval hf1 hf2 hf0 hfl kZ hle1 hle2;have ⟨hle02', hg', hnil', hbzz'⟩ := hyd4 hle02 hg hnil hbzz;clear hbzz hnil hg hle02 hle2 hle1 kZ hfl hf0 hf2 hf1 hval
     cases bz with
     | true =>
      go_wp2_with (fail);clear hW2;refine qBi hf0'.out (by kernel_rfl) (by kernel_rfl) ?_
      repeat (go_big_quiet_step ((go_at_call 114; exact qDo hf2'.out (qGd (hnil'.out _)))))
      refine wpQuiet_nil ?_;intro nq
      obtain rfl := hbad'.out (by
       rintro ⟨-, -, g', q1, q2⟩;rw [hg'.out] at q1;injection q1 with q1;subst q1
       exact q2 (by have := hbzz'.out; simpa using this))
      have hend := hfl'.out nq;generalize fam nq = W9 at hend ⊢;have hend' := hyd1 hend;clear hend;go_wp2;go_ret;exact ⟨rfl, hle.out.trans hend'.out⟩
     | false =>
      have hgn : qAI g ≠ 0 := by have := hbzz'.out; simpa using this
      by_cases hin2 : -64 ≤ kk ∧ kk ≤ 64
      ·have hw : qAJ kk (-64) 64 = true := within_iff.2 hin2;have hwc : ∀ n, Calls Tryz.prog 26 #[.int .i64 kk, .int .i64 (-64), .int .i64 64] (fam n) fun e w' => e = .returned (.bool true) ∧ ∃ m, w' = fam m := fun n => qIL (by have := qAQ kk (-64) 64 (fam n); rwa [hw] at this);have ⟨hwc', hw'⟩ := hyd2 hwc hw;clear hw hwc
       rcases (show k = 0 ∨ 0 < k by omega) with hk0 | hk0
       ·subst hk0;simp only [Nat.zero_mul, Nat.add_zero] at c0;have hgood := hgoal'.out ⟨(show (-65 : Int) < kk by omega), hin2.2, g, hg'.out, hgn⟩;have hgood' := hyd1 hgood;clear hgood;go_wp2_with (fail);clear hW2;refine qBi hf0'.out (by kernel_rfl) (by kernel_rfl) ?_
        repeat (go_big_quiet_step (first | (go_at_call 114; exact qDo hf2'.out (qGd (hnil'.out _))) | (go_at_call 26; exact hwc'.out _)))
        refine wpQuiet_nil ?_;intro nq;have hend := hfl'.out nq;generalize fam nq = W9 at hend ⊢;have hend' := hyd1 hend;clear hend;go_wp2;go_roundw
        case rel => exact ⟨0 + 1, by omega, by go_num, Lib.hid (hle.out.trans hend'.out), Lib.hid (hgood'.out)⟩
        case measure => simp [intOf]; omega
       ·obtain ⟨m, rfl⟩ : ∃ m, k = m + 1 := ⟨k - 1, by omega⟩;obtain ⟨b', off', c'', heq, -, hb', hac, -, hm1, hm2⟩ := qGc hvv'.out (show m < l.length by omega);injection heq with q1 q2 q3;injection q1 with q1;injection q1 with q1 q4;subst q1 q4;clear q2 q3;obtain ⟨-, -, -, -, -, -, -, -, -, -, -, -, -, -, -, -, -, p0, -⟩ := hac.same (W := wr) fun i => hle.out.cell (p := ⟨b, i, none⟩) hb';have hlast : qG7 l (m + 1) = (l.getD m default).k := rfl;rw [hlast] at hgoal' hbad';generalize (l.getD m default).k = kp at p0 hm1 hm2 hgoal' hbad';have p1 := fun n => ((hfl'.out n).cell (p := ⟨b, off + m * 9, none⟩) hbz).trans p0;have j1 : IntKind.i64.wrap (((m + 1 : Nat) : Int) - 1) = (m : Int) := by rw [IntWalk.i64_in _ (by omega)]; omega
        have j2 : (m : Int) < (l.length : Int) := by omega
        have j3 : (0 : Int) ≤ (m : Int) := by omega
        have j4 : (0 : Int) < ((m + 1 : Nat) : Int) := by omega
        have j5 : 0 < m + 1 := by omega
        have j6 : m < l.length := by omega
        clear p0 hac hlast
        by_cases hle2' : kk ≤ kp
        ·have hle3 : ¬ kp < kk := by omega
         go_wp2_with (fail);clear hW2;refine qBi hf0'.out (by kernel_rfl) (by kernel_rfl) ?_
         repeat (go_big_quiet_step (first | (go_at_call 114; exact qDo hf2'.out (qGd (hnil'.out _))) | (go_at_call 26; exact hwc'.out _)))
         refine wpQuiet_nil ?_;intro nq;obtain rfl := hbad'.out (by rintro ⟨q1, -⟩; omega);have hend := hfl'.out nq;generalize fam nq = W9 at hend ⊢;have hend' := hyd1 hend;clear hend;go_wp2;go_ret;exact ⟨rfl, hle.out.trans hend'.out⟩
        ·have hle3 : kp < kk := by omega
         have hgood := hgoal'.out ⟨hle3, hin2.2, g, hg'.out, hgn⟩;have hgood' := hyd1 hgood;clear hgood;go_wp2_with (fail);clear hW2;refine qBi hf0'.out (by kernel_rfl) (by kernel_rfl) ?_
         repeat (go_big_quiet_step (first | (go_at_call 114; exact qDo hf2'.out (qGd (hnil'.out _))) | (go_at_call 26; exact hwc'.out _)))
         refine wpQuiet_nil ?_;intro nq;have hend := hfl'.out nq;generalize fam nq = W9 at hend ⊢;have hend' := hyd1 hend;clear hend;go_wp2;go_roundw
         case rel => exact ⟨m + 1 + 1, by omega, by go_num, Lib.hid (hle.out.trans hend'.out), Lib.hid (hgood'.out)⟩
         case measure => simp [intOf]; omega
      ·have hw : qAJ kk (-64) 64 = false := by rw [← Bool.not_eq_true, within_iff]; exact hin2
       have hwc : ∀ n, Calls Tryz.prog 26 #[.int .i64 kk, .int .i64 (-64), .int .i64 64] (fam n) fun e w' => e = .returned (.bool false) ∧ ∃ m, w' = fam m := fun n => qIL (by have := qAQ kk (-64) 64 (fam n); rwa [hw] at this);have ⟨hwc', hw'⟩ := hyd2 hwc hw;clear hw hwc;go_wp2_with (fail);clear hW2;refine qBi hf0'.out (by kernel_rfl) (by kernel_rfl) ?_
       repeat (go_big_quiet_step (first | (go_at_call 114; exact qDo hf2'.out (qGd (hnil'.out _))) | (go_at_call 26; exact hwc'.out _)))
       refine wpQuiet_nil ?_;intro nq
       obtain rfl := hbad'.out (by
        rintro ⟨q1, q2, -⟩;refine hin2 ⟨?_, q2⟩
        by_cases hk0 : k = 0
        ·subst hk0;have : (-65 : Int) < kk := q1;omega
        ·obtain ⟨m, rfl⟩ : ∃ m, k = m + 1 := ⟨k - 1, by omega⟩;have h3 : (l.getD m default).k < kk := q1;obtain ⟨_, -, -, h4, -, -⟩ := qEK (hok.out m (by omega))
         omega)
       have hend := hfl'.out nq;generalize fam nq = W9 at hend ⊢;have hend' := hyd1 hend;clear hend;go_wp2;go_ret;exact ⟨rfl, hle.out.trans hend'.out⟩
    ·rw [hg];simp only [Option.isSome_none];have ⟨hval', hf1', hf2', hf0', hfl', kZ', hle1', hle2'⟩ := hyd8 hval hf1 hf2 hf0 hfl kZ hle1 hle2;have hle02' := hyd1 hle02;clear hle02 hle2 hle1 kZ hfl hf0 hf2 hf1 hval;go_wp2_with (fail);clear hW2;refine qBi hf0'.out (by kernel_rfl) (by kernel_rfl) ?_
     repeat (go_big_quiet_step (fail))
     refine wpQuiet_nil ?_;intro nq;obtain rfl := hbad'.out (by rintro ⟨-, -, g, q1, -⟩; rw [hg] at q1; cases q1);have hend := hfl'.out nq;generalize fam nq = W9 at hend ⊢;have hend' := hyd1 hend;clear hend;go_wp2;go_ret;exact ⟨rfl, hle.out.trans hend'.out⟩
   ·obtain rfl : k = l.length := by omega
    have hp : qCM l = true := (qFa _ _).2 hok.out;obtain rfl := eOk'.out hp;have hp' := hyd1 hp;clear hp;go_wp2;go_ret;exact ⟨rfl, hle.out⟩
end Go.Proofs.YtabfaobakmjiaaaGreat
namespace Go.Proofs.YtabfaobakmjiaaaGreat
set_option maxRecDepth 100000
set_option maxHeartbeats 4000000
open Go.RowKit Go.Shelf
set_option linter.unusedVariables false
set_option linter.unusedSimpArgs false
attribute [local go_sem] Oper.semAt_some
attribute [local go_sem ↓] Go.wp_at_zero Go.wp_at_succ
def qC0 (l : List ArmA) (g t : Nat) (j : Nat) : Bool := qFF (l.getD j default).c g || (qAJ (l.getD j default).k ((t : Int) + 1) 64 || qAJ (l.getD j default).k (-64) (-(t : Int) - 1))
def qEI (l : List ArmA) (m g t : Nat) : Bool := (decide (m < l.length) && decide (l.length ≠ 25)) || qHy (qC0 l g t) l.length
theorem qJO (l : List ArmA) (m g t : Nat) (v : Value) (w : World) (hv : ArmsL w v l) (hm : m ≤ 1000) (hg : g ≤ 1000) (ht : t ≤ 1000) :
  Calls Tryz.prog 6 #[v, .int .i64 m, .int .i64 g, .int .i64 t] w fun e w' => e = .returned (.bool (qEI l m g t)) ∧ Le w w' := by
 obtain ⟨tv, hvv⟩ := hv.vals;have hvv' := hyd1 hvv;obtain ⟨A, c, rfl, hlc, hcm, -⟩ := hvv;unfold maxLen at hcm;obtain ⟨R, hR⟩ : ∃ R, qEI l m g t = R := ⟨_, rfl⟩;rw [hR];unfold qEI at hR
 by_cases hbig : m < l.length ∧ l.length ≠ 25
 ·have hRt : R = true := by rw [← hR]; simp [hbig]
  subst hRt;obtain ⟨b1, b2⟩ := hbig;have e1 : (m : Int) < (l.length : Int) := by omega
  have e2 : ((l.length : Int) == 25) = false := by simp; omega
  have e3 : ((l.length : Int) != 25) = true := by simp; omega
  have ⟨hR', hv'⟩ := hyd2 hR hv;clear hv hR;go_enter Tryz.func6, Tryz.ntmps6;go_wp2;go_ret;exact ⟨rfl, Le.refl _⟩
 ·have hRs : R = qHy (qC0 l g t) l.length := by
   rw [← hR];have : (decide (m < l.length) && decide (l.length ≠ 25)) = false := by simp only [Bool.and_eq_false_iff, decide_eq_false_iff_not]; omega
   rw [this, Bool.false_or]
  have hyes : ∀ j, j < l.length → qC0 l g t j = true → R = true := fun j h1 h2 => by rw [hRs]; exact (qHQ _ _).2 ⟨j, h1, h2⟩
  have hno : (∀ j, j < l.length → qC0 l g t j = false) → R = false := fun h => by
   rw [hRs, ← Bool.not_eq_true, qHQ];rintro ⟨j, h1, h2⟩;rw [h j h1] at h2
   cases h2
  have main : ∀ T : Array Value, (∃ u : Nat → Value, True) → True := fun _ _ => trivial;clear main
  have h25 : m < l.length → l.length = 25 := fun h => by
   rcases Nat.lt_or_ge m l.length with h' | h'
   ·exact Decidable.byContradiction fun hc => hbig ⟨h', hc⟩
   ·omega
  have hN : (¬ m < l.length) ∨ (m < l.length ∧ l.length = 25) := by
   by_cases h' : m < l.length
   ·exact .inr ⟨h', h25 h'⟩
   ·exact .inl h'
  clear h25 hbig
  rcases hN with hN | ⟨hN1, hN2⟩
  all_goals
   try
    have e1 : (m : Int) < (l.length : Int) := by omega
    have e2 : ((l.length : Int) != 25) = false := by simp; omega
    have e3 : ((l.length : Int) == 25) = true := by simp; omega
    have hN2' := hyd1 hN2;clear hN2
   have ⟨hR', hv', hRs', hyes', hno'⟩ := hyd5 hR hv hRs hyes hno;clear hno hyes hRs hv hR;go_enter Tryz.func6, Tryz.ntmps6;go_wp2;go_loopw [9] (fun i wr => ∃ k : Nat, k ≤ l.length ∧ i = .int .i64 k ∧ Hid (Le w wr) ∧ Hid (∀ j, j < k → qC0 l g t j = false)) (fun i _ => l.length - (intOf i).toNat)
   case atStart => exact ⟨0, Nat.zero_le _, rfl, Lib.hid (Le.refl _), Lib.hid (fun j h => absurd h (Nat.not_lt_zero j))⟩
   case round =>
    obtain ⟨k, hk, rfl, hle, hok⟩ := hrel
    by_cases hlt : k < l.length
    ·obtain ⟨b, off, c', heq, -, hb, hac, hta, hk1, hk2⟩ := qGc hvv'.out hlt;injection heq with q1 q2 q3;subst q1 q3;clear q2;obtain ⟨s1, A1, n1, c1, t1, B1, m1, d1, s2, A2, n2, c2, t2, B2, m2, d2, he, a0, a1, a2, a3, a4, a5, a6, a7, a8⟩ := hac.same (W := wr) fun i => hle.out.cell (p := ⟨b, i, none⟩) hb;have hgt := qHI (l.getD k default).c g _ wr (by omega) (hta.le hle.out);rw [he] at hgt;obtain ⟨x1, hx1⟩ : ∃ x, qFF (l.getD k default).c g = x := ⟨_, rfl⟩;obtain ⟨x2, hx2⟩ : ∃ x, qAJ (l.getD k default).k ((t : Int) + 1) 64 = x := ⟨_, rfl⟩;obtain ⟨x3, hx3⟩ : ∃ x, qAJ (l.getD k default).k (-64) (-(t : Int) - 1) = x := ⟨_, rfl⟩;have hval : qC0 l g t k = (x1 || (x2 || x3)) := by unfold qC0; rw [hx1, hx2, hx3]
     rw [hx1] at hgt;generalize (l.getD k default).k = kk at a0 hx2 hx3 hk1 hk2;have hbz : b < wr.heap.size := Nat.lt_of_lt_of_le hb hle.out.size;have hkey := hyes'.out k hlt
     have hnx : (x1 || (x2 || x3)) = false → ∀ j, j < k + 1 → qC0 l g t j = false := fun h j hj => by
      by_cases hjk : j = k
      ·rw [hjk, hval]; exact h
      ·exact hok.out j (by omega)
     rw [hval] at hkey;have i1 : (k : Int) < (l.length : Int) := by omega
     clear hac hta;have ⟨hgt', hx1', hval', he', hkey', hnx'⟩ := hyd6 hgt hx1 hval he hkey hnx;clear hnx hkey he hval hx1 hgt;go_wp2_with (fail);go_at_call 25;refine hgt'.out.mono ?_;rintro e w1 ⟨rfl, hle1⟩;have k0 := (hle1.cell (p := ⟨b, off + k * 9, none⟩) hbz).trans a0;clear a0 a1 a2 a3 a4 a5 a6 a7 a8;have hle1' := hyd1 hle1;clear hle1
     cases x1 with
     | true =>
      obtain rfl := hkey'.out rfl;go_wp2;go_ret;exact ⟨rfl, hle.out.trans hle1'.out⟩
     | false =>
      cases x2 with
      | true =>
       obtain rfl := hkey'.out rfl;go_wp2_with (first | (go_at_call 26; ((with_reducible refine (qAQ _ _ _ _).mono ?_); rintro e w' ⟨rfl, rfl⟩; rw [hx2])));go_ret;exact ⟨rfl, hle.out.trans hle1'.out⟩
      | false =>
       cases x3 with
       | true =>
        obtain rfl := hkey'.out rfl;go_wp2_with (first | (go_at_call 26; ((with_reducible refine (qAQ _ _ _ _).mono ?_); rintro e w' ⟨rfl, rfl⟩; first | rw [hx2] | rw [hx3])));go_ret;exact ⟨rfl, hle.out.trans hle1'.out⟩
       | false =>
        go_wp2_with (first | (go_at_call 26; ((with_reducible refine (qAQ _ _ _ _).mono ?_); rintro e w' ⟨rfl, rfl⟩; first | rw [hx2] | rw [hx3])));go_roundw
        case rel => exact ⟨k + 1, by omega, by go_num, Lib.hid (hle.out.trans hle1'.out), Lib.hid (hnx'.out rfl)⟩
        case measure => simp [intOf]; omega
    ·obtain rfl : k = l.length := by omega
     obtain rfl := hno'.out hok.out;go_wp2;go_ret;exact ⟨rfl, hle.out⟩
end Go.Proofs.YtabfaobakmjiaaaGreat
