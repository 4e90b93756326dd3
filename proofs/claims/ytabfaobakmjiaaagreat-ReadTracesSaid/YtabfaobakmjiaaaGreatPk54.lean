/- From what a row's opening gives of a program (a struct of six fields) to the predicate that the contracts speak of. From what a row's opening gives of a .. -/
import Derived.Test.YtabfaobakmjiaaaGreatPk53
namespace Go.Proofs.YtabfaobakmjiaaaGreat
set_option maxRecDepth 100000
open Go.RowKit Go.ChangeShapes Go.WideShapes Go.Deep
set_option linter.unusedVariables false
section
variable {H : Type} {enc : TypeId × Value → H} {w : World} {n : Nat}
end
end Go.Proofs.YtabfaobakmjiaaaGreat
namespace Go.Proofs.YtabfaobakmjiaaaGreat
set_option maxRecDepth 100000
open Go.RowKit Go.ChangeShapes Go.WideShapes Go.Deep
set_option linter.unusedVariables false
theorem wf64 {k : Int} (hw : (Lit.int .i64 k).wf = true) : fit64 k := by
 have h1 : IntKind.i64.min ≤ k ∧ k ≤ IntKind.i64.max := by simpa [Lit.wf] using hw
 have e1 : IntKind.i64.min = -9223372036854775808 := by kernel_rfl
 have e2 : IntKind.i64.max = 9223372036854775807 := by kernel_rfl
 rw [e1, e2] at h1;exact h1
theorem qLC {α : Type} {n : Nat} {Q : Nat → α → Prop} (h : ∀ i, i < n → ∃ a, Q i a) : ∃ l : List α, l.length = n ∧ ∀ j (hj : j < l.length), Q j l[j] := by
 induction n with
 | zero => exact ⟨[], rfl, fun j hj => absurd hj (Nat.not_lt_zero j)⟩
 | succ n ih =>
  obtain ⟨l, hl, hq⟩ := ih (fun i hi => h i (by omega));obtain ⟨a, ha⟩ := h n (by omega);refine ⟨l ++ [a], by simp [hl], fun j hj => ?_⟩
  by_cases hjl : j < l.length
  ·rw [List.getElem_append_left hjl]; exact hq j hjl
  ·have : j = l.length := by simp at hj; omega
   subst this;simp only [List.getElem_concat_length];rw [hl]; exact ha
section
variable {H : Type} {enc : TypeId × Value → H} {w : World}
theorem qEi {P : Program} {TS TE : TypeId} {k : Nat} (hu : P.underlying TS = some (.slice TE)) (hk : P.cellsOf TE = k) (hk0 : 0 < k) {α : Type} (Q : Nat → Nat → α → Prop)
  (each : ∀ (b o n : Nat) (cs : List Value) (y : DataW H × List MemPlace), cs.length = k → (∀ i, i < k → w.cell? ⟨b, o + i, none⟩ = cs[i]?) → DataW.trod enc P w 0 (fun _ => true) true n TE cs = some y → ∃ a : α, Q b o a)
  {n : Nat} {v : Value} {y : DataW H × List MemPlace} (h : DataW.trod enc P w 0 (fun _ => true) true n TS [v] = some y) :
  ∃ l : List α, ∃ A c, v = .slice A l.length c ∧ l.length ≤ c ∧ c ≤ maxLen ∧ (A = none → c = 0) ∧ (0 < l.length → ∃ b off, A = some ⟨b, off, none⟩ ∧ b < w.heap.size ∧ ∀ j (hj : j < l.length), Q b (off + j * k) l[j]) := by
 rcases open_slice hu h with ⟨hcs, -⟩ | ⟨x, len, cap, m, n', D, Pl, hcs, -, hl, hm, hmm, -, hel⟩
 ·obtain rfl : v = .slice none 0 0 := by simpa using hcs
  exact ⟨[], none, 0, rfl, Nat.le_refl _, Nat.zero_le _, (fun _ => rfl), fun h => absurd h (Nat.lt_irrefl 0)⟩
 ·obtain rfl : v = .slice (some x) len cap := by simpa using hcs
  have hmc : m = cap := by simpa using hmm
  by_cases h0 : len = 0
  ·subst h0;exact ⟨[], some x, cap, rfl, Nat.zero_le _, by omega, (fun h => by cases h), fun h => absurd h (Nat.lt_irrefl 0)⟩
  ·obtain ⟨b, off, spot⟩ := x;rw [hk] at hel;obtain ⟨cs0, hcs0, -⟩ := hel 0 (by omega);obtain ⟨-, hl9, hc0⟩ := World.cells?_some hcs0;have hc00 := hc0 0 hk0;obtain ⟨v0, hv0⟩ : ∃ v, cs0[0]? = some v := ⟨_, List.getElem?_eq_getElem (by omega)⟩;rw [hv0] at hc00;have hspot : spot = none := by simpa [Addr.add] using World.cell?_spot hc00
   subst hspot;have hadd : ∀ j, (⟨b, off, none⟩ : Addr).add j = ⟨b, off + j, none⟩ := fun j => by unfold Addr.add; split <;> simp_all
   have hadd2 : ∀ o j, (⟨b, o, none⟩ : Addr).add j = ⟨b, o + j, none⟩ := fun o j => by unfold Addr.add; split <;> simp_all
   have hblk : b < w.heap.size := by
    have := World.block_lt_of_cell? w _ hc00;simpa [Addr.add] using this
   have hall : ∀ i, i < len → ∃ a : α, Q b (off + i * k) a := fun i hi => by
    obtain ⟨cs, hcs, hy⟩ := hel i (by omega);obtain ⟨-, hl9, hcc⟩ := World.cells?_some hcs;refine each b (off + i * k) _ cs _ hl9 (fun j hj => ?_) hy;have := hcc j hj;rw [hadd, hadd2] at this;exact this
   obtain ⟨l, hll, hq⟩ := qLC hall;subst hll;exact ⟨l, some ⟨b, off, none⟩, cap, rfl, by simpa using hl, by omega, (fun h => by cases h), fun _ => ⟨b, off, rfl, hblk, hq⟩⟩
end
end Go.Proofs.YtabfaobakmjiaaaGreat
namespace Go.Proofs.YtabfaobakmjiaaaGreat
set_option maxRecDepth 100000
open Go.RowKit Go.ChangeShapes Go.WideShapes Go.Deep
set_option linter.unusedVariables false
def PathsI (w : World) (v : Value) (L : List (List ArmA)) : Prop :=
 ∃ A c, v = .slice A L.length c ∧ L.length ≤ c ∧ c ≤ maxLen ∧ (A = none → c = 0) ∧ (0 < L.length → ∃ b off, A = some ⟨b, off, none⟩ ∧ b < w.heap.size ∧ ∀ j (h : j < L.length), ∃ vr, w.cell? ⟨b, off + j, none⟩ = some vr ∧ ArmsL w vr L[j])
theorem PathsI.paths {w : World} {v : Value} {L : List (List ArmA)} (h : PathsI w v L) (hl : L.length ≤ 1000) : PathsL w v L := by
 obtain ⟨A, c, hv, -, -, -, h2⟩ := h;exact ⟨A, c, hv, hl, h2⟩
abbrev SpotsI := SV 2 qGf
theorem SpotsI.spots {w : World} {v : Value} {L : List Sp} (h : SpotsI w v L) (hl : L.length ≤ 1000) : SpotsV w v L := by
 obtain ⟨A, c, hv, -, -, -, h2⟩ := h;refine ⟨A, c, hv, hl, fun h0 => ?_⟩;obtain ⟨b, off, ha, hlt, hc⟩ := h2 h0;exact ⟨b, off, ha, hlt, fun j hj => ⟨hc j hj 0 _ rfl, hc j hj 1 _ rfl⟩⟩
section
variable {H : Type} {enc : TypeId × Value → H} {w : World}
theorem qLD {n : Nat} {v : Value} {y : DataW H × List MemPlace} (h : DataW.trod enc Tryz.prog w 0 (fun _ => true) true n 3 [v] = some y) : ∃ z, v = .int .i64 z ∧ fit64 z := by
 obtain ⟨z, h1, -, h2⟩ := DataW.trod_int Tryz.underlying3 h;exact ⟨z, by simpa using h1, wf64 h2⟩
theorem qMK {b o n : Nat} {cs : List Value} {y : DataW H × List MemPlace} (hlen : cs.length = 2) (hc : ∀ i, i < 2 → w.cell? ⟨b, o + i, none⟩ = cs[i]?) (h : DataW.trod enc Tryz.prog w 0 (fun _ => true) true n 41 cs = some y) :
  ∃ r : Sp, (∀ i u, (qGf r)[i]? = some u → w.cell? ⟨b, o + i, none⟩ = some u) ∧ fit64 r.1 ∧ fit64 r.2 := by
 match cs, hlen with
 | [v0, v1], _ =>
  obtain ⟨xs, m, -, -, -, hl, hg⟩ := DataW.trod_struct Tryz.underlying41 h;obtain ⟨y0, hy0⟩ : ∃ y, xs[0]? = some y := ⟨_, List.getElem?_eq_getElem (by rw [hl]; decide)⟩;obtain ⟨y1, hy1⟩ : ∃ y, xs[1]? = some y := ⟨_, List.getElem?_eq_getElem (by rw [hl]; decide)⟩;obtain ⟨z0, rfl, f0⟩ := qLD (v := v0) ((hg 0 _ rfl).trans hy0);obtain ⟨z1, rfl, f1⟩ := qLD (v := v1) ((hg 1 _ rfl).trans hy1);refine ⟨(z0, z1), fun i u hu => ?_, f0, f1⟩;have hi : i < 2 := (List.getElem?_eq_some_iff.1 hu).1;rw [hc i hi]; exact hu
theorem qML {n : Nat} {v : Value} {y : DataW H × List MemPlace} (h : DataW.trod enc Tryz.prog w 0 (fun _ => true) true n 25 [v] = some y) : ∃ l : List ArmA, ArmsL w v l := by
 obtain ⟨l, A, c, rfl, h1, h2, h3, h4⟩ := qEi Tryz.underlying25 (by kernel_rfl) (by decide) (fun b o (a : ArmA) => ArmAt w b o a ∧ -9223372036854775808 ≤ a.k ∧ a.k ≤ 9223372036854775807) (fun b o n cs y q1 q2 q3 => qKl q1 q2 q3) h;refine ⟨l, A, c, rfl, h1, h2, h3, fun a ha => ?_, fun h0 => ?_⟩
 ·obtain ⟨j, hj, rfl⟩ := List.getElem_of_mem ha;obtain ⟨b, off, e, hb, hq⟩ := h4 (by omega);exact (hq j hj).2
 ·obtain ⟨b, off, e, hb, hq⟩ := h4 h0;exact ⟨b, off, e, hb, fun j hj => by rw [Nat.mul_comm 9 j]; exact (hq j hj).1⟩
theorem qMM {b o n : Nat} {cs : List Value} {y : DataW H × List MemPlace} (hlen : cs.length = 1) (hc : ∀ i, i < 1 → w.cell? ⟨b, o + i, none⟩ = cs[i]?) (h : DataW.trod enc Tryz.prog w 0 (fun _ => true) true n 25 cs = some y) :
  ∃ l : List ArmA, ∃ vr, w.cell? ⟨b, o, none⟩ = some vr ∧ ArmsL w vr l := by
 match cs, hlen with
 | [v0], _ =>
  obtain ⟨l, hl⟩ := qML h;exact ⟨l, v0, hc 0 (by decide), hl⟩
theorem open_spots {r : Reach} {b0 : Nat} {v : Value} {d : DataW H} {p : List MemPlace} (hv : Value.okWide Tryz.prog w r b0 23 v) (h : DataW.Trod enc Tryz.prog w 0 (fun _ => true) true 23 v d p) : ∃ l : List Sp, SpotsI w v l ∧ ∀ s ∈ l, fit64 s.1 ∧ fit64 s.2 := by
 obtain ⟨fuel, hf⟩ := h;obtain ⟨a', len', cap', rfl⟩ := okWide_slice Tryz.underlying23 hv;have hf' : DataW.trod enc Tryz.prog w 0 (fun _ => true) true fuel 23 [.slice a' len' cap'] = some (d, p) := by simpa [Value.cells] using hf
 obtain ⟨l, A, c, e, h1, h2, h3, h4⟩ := qEi Tryz.underlying23 (by kernel_rfl) (by decide) (fun b o (a : Sp) => (∀ i u, (qGf a)[i]? = some u → w.cell? ⟨b, o + i, none⟩ = some u) ∧ fit64 a.1 ∧ fit64 a.2) (fun b o n cs y q1 q2 q3 => qMK q1 q2 q3) hf';refine ⟨l, ⟨A, c, e, h1, h2, h3, fun h0 => ?_⟩, fun s hs => ?_⟩
 ·obtain ⟨b, off, e, hb, hq⟩ := h4 h0;exact ⟨b, off, e, hb, fun j hj => (hq j hj).1⟩
 ·obtain ⟨j, hj, rfl⟩ := List.getElem_of_mem hs;obtain ⟨b, off, e, hb, hq⟩ := h4 (by omega);exact (hq j hj).2
theorem open_paths {r : Reach} {b0 : Nat} {v : Value} {d : DataW H} {p : List MemPlace} (hv : Value.okWide Tryz.prog w r b0 22 v) (h : DataW.Trod enc Tryz.prog w 0 (fun _ => true) true 22 v d p) : ∃ l : List (List ArmA), PathsI w v l := by
 obtain ⟨fuel, hf⟩ := h;obtain ⟨a', len', cap', rfl⟩ := okWide_slice Tryz.underlying22 hv;have hf' : DataW.trod enc Tryz.prog w 0 (fun _ => true) true fuel 22 [.slice a' len' cap'] = some (d, p) := by simpa [Value.cells] using hf
 obtain ⟨l, A, c, e, h1, h2, h3, h4⟩ := qEi Tryz.underlying22 (by kernel_rfl) (by decide) (fun b o (a : List ArmA) => ∃ vr, w.cell? ⟨b, o, none⟩ = some vr ∧ ArmsL w vr a) (fun b o n cs y q1 q2 q3 => qMM q1 q2 q3) hf';refine ⟨l, A, c, e, h1, h2, h3, fun h0 => ?_⟩;obtain ⟨b, off, e, hb, hq⟩ := h4 h0;exact ⟨b, off, e, hb, fun j hj => by have := hq j hj; rwa [Nat.mul_one] at this⟩
end
end Go.Proofs.YtabfaobakmjiaaaGreat
namespace Go.Proofs.YtabfaobakmjiaaaGreat
set_option maxRecDepth 100000
set_option maxHeartbeats 2000000
open Go.RowKit
set_option linter.unusedVariables false
set_option linter.unusedSimpArgs false
theorem qLy {res : Except Int (List Tra)} {w w1 w2 : World} {e1 e2 : Ending} (h1 : qGm res w e1 w1) (h2 : qGm res w1 e2 w2) : ∃ L v1 v2 c, e1 = .returned (.tuple #[v1, .int .i64 c]) ∧ e2 = .returned (.tuple #[v2, .int .i64 c]) ∧ TraL w2 v1 L ∧ TraL w2 v2 L := by
 obtain ⟨b1, v1, c1, rfl, r1⟩ := h1;obtain ⟨b2, v2, c2, rfl, r2⟩ := h2
 cases res with
 | ok L =>
  obtain ⟨a1, rfl⟩ := r1;obtain ⟨a2, rfl⟩ := r2;exact ⟨L, v1, v2, 0, rfl, rfl, a1.le b2, a2⟩
 | error z =>
  obtain ⟨rfl, rfl⟩ := r1;obtain ⟨rfl, rfl⟩ := r2;exact ⟨[], _, _, _, rfl, rfl, SV.nil _, SV.nil _⟩
theorem law_ReadTraces (a0 : List (List ArmA)) (x0 : Value) (a1 : Int) (a2 : List Sp) (x2 : Value) (a3 : Int) (w : World) (w0 : PathsI w x0 a0) (w1 : (Lit.int .i64 a1).wf = true) (w2 : SpotsI w x2 a2 ∧ ∀ s ∈ a2, fit64 s.1 ∧ fit64 s.2) (w3 : (Lit.int .i64 a3).wf = true) :
  Calls Tryz.prog 3 #[x0, .int .i64 a1, x2, .int .i64 a3] w fun e w' => e = .returned (.bool true) ∧ Below w.heap.size w w' := by
 obtain ⟨w2, wf⟩ := w2;obtain ⟨PA, pc, rfl, p1, p2, -⟩ := id w0;obtain ⟨SA, sc, rfl, s1⟩ := w2.slice;unfold maxLen at p2 s1;obtain ⟨pl, hpl⟩ : ∃ m, a0.length = m := ⟨_, rfl⟩;obtain ⟨sl, hsl⟩ : ∃ m, a2.length = m := ⟨_, rfl⟩;rw [hpl] at p1 ⊢;rw [hsl] at s1 ⊢
 by_cases hbig : 10 < pl ∨ 70 < sl
 ·have hcase : (10 : Int) < (pl : Int) ∨ (¬ (10 : Int) < (pl : Int) ∧ (70 : Int) < (sl : Int)) := by omega
  clear hbig
  rcases hcase with h | ⟨g, h⟩
  all_goals
   have ⟨w0', w2', wf', hpl', hsl'⟩ := hyd5 w0 w2 wf hpl hsl;clear hsl hpl wf w2 w0;go_enter Tryz.func3, Tryz.ntmps3;go_wp2;go_ret;exact ⟨rfl, Below.refl _ _⟩
 ·have hp10 : pl ≤ 10 := by omega
  have hs70 : sl ≤ 70 := by omega
  have i1 : ¬ (10 : Int) < (pl : Int) := by omega
  have i2 : ¬ (70 : Int) < (sl : Int) := by omega
  have hp := w0.paths (by omega);have hs := SpotsI.spots w2 (by omega);rw [hpl] at hp;rw [hsl] at hs;clear hbig p1 p2 s1;have ⟨w0', w2', wf', hpl', hsl', hp', hs'⟩ := hyd7 w0 w2 wf hpl hsl hp hs;clear hs hp hsl hpl wf w2 w0;go_enter Tryz.func3, Tryz.ntmps3;go_wp2_with (fail);go_loopw [24] (fun ix wr => ∃ i : Nat, i ≤ pl ∧ ix = .int .i64 (i : Int) ∧ Hid (Below w.heap.size w wr)) (fun ix _ => pl - (intOf ix).toNat)
  case atStart => exact ⟨0, Nat.zero_le _, rfl, Lib.hid (Below.refl _ _)⟩
  case round =>
   obtain ⟨i, hi, rfl, hB⟩ := hrel;have hbw := hB.out
   by_cases hlt : i < pl
   ·have hip : i < a0.length := by rw [hpl'.out]; exact hlt
    obtain ⟨pb, po, pc9, vr, heq, hpb, g0, hvr⟩ := PathsL.at (hp'.out.le hbw) hip;rw [hpl'.out] at heq;injection heq with e1 e2 e3;subst e1 e3;clear e2;have kg := qJO a0[i] 5 1 12 vr _ hvr (by omega) (by omega) (by omega);obtain ⟨G, hG⟩ : ∃ G, qEI a0[i] 5 1 12 = G := ⟨_, rfl⟩;rw [hG] at kg;have j1 : (i : Int) < (pl : Int) := by omega
    have j2 : (0 : Int) ≤ (i : Int) := by omega
    have ⟨hB', hbw', hpb', hvr', kg', hG'⟩ := hyd6 hB hbw hpb hvr kg hG;clear hG kg hvr hpb hbw hB;go_wp2_with (fail);go_at_call 6;refine kg'.out.mono ?_;rintro e W2 ⟨rfl, hle2⟩;have hb2 := belT hbw'.out hle2;clear g0
    cases G with
    | true =>
     have ⟨hle2', hb2'⟩ := hyd2 hle2 hb2;clear hb2 hle2;go_wp2;go_ret;exact ⟨rfl, hb2'.out⟩
    | false =>
     have ⟨hle2', hb2'⟩ := hyd2 hle2 hb2;clear hb2 hle2;go_wp2;go_roundw
     case rel => exact ⟨i + 1, by omega, by go_num, hb2'⟩
     case measure => simp [intOf]; omega
   ·obtain rfl : i = pl := by omega
    have kt1 := qJT a0 a1 a2 a3 _ _ _ (hp'.out.le hbw) (hs'.out.le (show Le w _ from hbw)) wf'.out;have ⟨hB', hbw', kt1'⟩ := hyd3 hB hbw kt1;clear kt1 hbw hB;go_wp2_with (fail);go_at_call 7;refine kt1'.out.mono ?_;rintro e1 W2 h1;have hb2 := belT hbw'.out h1.1;have kt2 := qJU a0 a1 a2 a3 _ _ W2 (hp'.out.le hb2) (hs'.out.le (show Le w _ from hb2));obtain ⟨-, v1, c1, rfl, -⟩ := id h1;have ⟨h1', hb2', kt2'⟩ := hyd3 h1 hb2 kt2;clear kt2 hb2 h1;go_wp2_with (fail);go_at_call 8;refine kt2'.out.mono ?_;rintro e2 W3 h2;have hb3 := belT hb2'.out h2.1;obtain ⟨L, u1, u2, c, q1, rfl, t1, t2⟩ := qLy h1'.out h2;injection q1 with q1;injection q1 with q1;simp only [Array.mk.injEq, List.cons.injEq, and_true] at q1;obtain ⟨rfl, q2⟩ := q1;injection q2 with _ q2;subst q2;have kst := qGD L _ _ W3 t1 t2;have ⟨h2', hb3', t1', t2', kst'⟩ := hyd5 h2 hb3 t1 t2 kst;clear kst t2 t1 hb3 h2;go_wp2_with (fail);go_at_call 9;refine kst'.out.mono ?_;rintro e W4 ⟨rfl, nq, rfl⟩;have hb4 := qBU hb3'.out nq;have hb4' := hyd1 hb4;clear hb4;go_wp2;go_ret;exact ⟨rfl, hb4'.out⟩
end Go.Proofs.YtabfaobakmjiaaaGreat
