/- From what a row's opening gives of a picture to the predicate that the contracts speak of. -/
import Derived.Test.YtphdalgaemefoaaGreatPicKit
import Derived.Test.YtphdalgaemefoaaGreatOpenProg
namespace Go.Proofs.YtphdalgaemefoaaGreat
set_option maxRecDepth 100000
open Go.RowKit Go.ChangeShapes Go.WideShapes Go.Deep
set_option linter.unusedVariables false
theorem wf64 {k : Int} (hw : (Lit.int .i64 k).wf = true) : fit64 k := by
 have h1 : IntKind.i64.min ≤ k ∧ k ≤ IntKind.i64.max := by simpa [Lit.wf] using hw
 have e1 : IntKind.i64.min = -9223372036854775808 := by kernel_rfl
 have e2 : IntKind.i64.max = 9223372036854775807 := by kernel_rfl
 rw [e1, e2] at h1
 exact h1
theorem choose_up {α : Type} {n : Nat} {Q : Nat → α → Prop} (h : ∀ i, i < n → ∃ a, Q i a) : ∃ l : List α, l.length = n ∧ ∀ j (hj : j < l.length), Q j l[j] := by
 induction n with
 | zero => exact ⟨[], rfl, fun j hj => absurd hj (Nat.not_lt_zero j)⟩
 | succ n ih =>
  obtain ⟨l, hl, hq⟩ := ih (fun i hi => h i (by omega))
  obtain ⟨a, ha⟩ := h n (by omega)
  refine ⟨l ++ [a], by simp [hl], fun j hj => ?_⟩
  by_cases hjl : j < l.length
  ·rw [List.getElem_append_left hjl]; exact hq j hjl
  ·have : j = l.length := by simp at hj; omega
   subst this
   simp only [List.getElem_concat_length]
   rw [hl]; exact ha
section
variable {H : Type} {enc : TypeId × Value → H} {w : World}
theorem open_rowsG {P : Program} {TS TE : TypeId} {k : Nat} (hu : P.underlying TS = some (.slice TE)) (hk : P.cellsOf TE = k) (hk0 : 0 < k) {α : Type} (Q : Nat → Nat → α → Prop)
  (each : ∀ (b o n : Nat) (cs : List Value) (y : DataW H × List MemPlace), cs.length = k → (∀ i, i < k → w.cell? ⟨b, o + i, none⟩ = cs[i]?) → DataW.trod enc P w 0 (fun _ => true) true n TE cs = some y → ∃ a : α, Q b o a)
  {n : Nat} {v : Value} {y : DataW H × List MemPlace} (h : DataW.trod enc P w 0 (fun _ => true) true n TS [v] = some y) :
  ∃ l : List α, ∃ A c, v = .slice A l.length c ∧ l.length ≤ c ∧ c ≤ maxLen ∧ (A = none → c = 0) ∧ (0 < l.length → ∃ b off, A = some ⟨b, off, none⟩ ∧ b < w.heap.size ∧ ∀ j (hj : j < l.length), Q b (off + j * k) l[j]) := by
 rcases open_slice hu h with ⟨hcs, -⟩ | ⟨x, len, cap, m, n', D, Pl, hcs, -, hl, hm, hmm, -, hel⟩
 ·obtain rfl : v = .slice none 0 0 := by simpa using hcs
  exact ⟨[], none, 0, rfl, Nat.le_refl _, Nat.zero_le _, (fun _ => rfl), fun h => absurd h (Nat.lt_irrefl 0)⟩
 ·obtain rfl : v = .slice (some x) len cap := by simpa using hcs
  have hmc : m = cap := by simpa using hmm
  by_cases h0 : len = 0
  ·subst h0
   exact ⟨[], some x, cap, rfl, Nat.zero_le _, by omega, (fun h => by cases h), fun h => absurd h (Nat.lt_irrefl 0)⟩
  ·obtain ⟨b, off, spot⟩ := x
   rw [hk] at hel
   obtain ⟨cs0, hcs0, -⟩ := hel 0 (by omega)
   obtain ⟨-, hl9, hc0⟩ := World.cells?_some hcs0
   have hc00 := hc0 0 hk0
   obtain ⟨v0, hv0⟩ : ∃ v, cs0[0]? = some v := ⟨_, List.getElem?_eq_getElem (by omega)⟩
   rw [hv0] at hc00
   have hspot : spot = none := by simpa [Addr.add] using World.cell?_spot hc00
   subst hspot
   have hadd : ∀ j, (⟨b, off, none⟩ : Addr).add j = ⟨b, off + j, none⟩ := fun j => by unfold Addr.add; split <;> simp_all
   have hadd2 : ∀ o j, (⟨b, o, none⟩ : Addr).add j = ⟨b, o + j, none⟩ := fun o j => by unfold Addr.add; split <;> simp_all
   have hblk : b < w.heap.size := by
    have := World.block_lt_of_cell? w _ hc00
    simpa [Addr.add] using this
   have hall : ∀ i, i < len → ∃ a : α, Q b (off + i * k) a := fun i hi => by
    obtain ⟨cs, hcs, hy⟩ := hel i (by omega)
    obtain ⟨-, hl9, hcc⟩ := World.cells?_some hcs
    refine each b (off + i * k) _ cs _ hl9 (fun j hj => ?_) hy
    have := hcc j hj
    rw [hadd, hadd2] at this
    exact this
   obtain ⟨l, hll, hq⟩ := choose_up hall
   subst hll
   exact ⟨l, some ⟨b, off, none⟩, cap, rfl, by simpa using hl, by omega, (fun h => by cases h), fun _ => ⟨b, off, rfl, hblk, hq⟩⟩
theorem p_ints {n : Nat} {v : Value} {y : DataW H × List MemPlace} (h : DataW.trod enc Tryz.prog w 0 (fun _ => true) true n 36 [v] = some y) : ∃ zs, Ints w v zs ∧ ∀ x ∈ zs, fit64 x := by
 rcases open_ints Tryz.underlying36 Tryz.underlying3 (by kernel_rfl) h with ⟨hcs, _⟩ | ⟨x, l, c, zs, hcs, _, hl, hm, hz, _, hcell, hwz⟩
 ·obtain rfl : v = .slice none 0 0 := by simpa using hcs
  exact ⟨[], Arr.nil _ _, by simp⟩
 ·obtain rfl : v = .slice (some x) l c := by simpa using hcs
  obtain ⟨g1, g2⟩ := InRow.arr (k := .i64) (w := w) (.inr ⟨_, rfl, hl, hm, by simpa using hz, hcell, hwz⟩)
  exact ⟨_, g1, fun x hx => wf64 (g2 x hx)⟩
theorem p_int {n : Nat} {v : Value} {y : DataW H × List MemPlace} (h : DataW.trod enc Tryz.prog w 0 (fun _ => true) true n 3 [v] = some y) : ∃ z, v = .int .i64 z ∧ fit64 z := by
 obtain ⟨z, h1, -, h2⟩ := DataW.trod_int Tryz.underlying3 h
 exact ⟨z, by simpa using h1, wf64 h2⟩
theorem p_read {b o n : Nat} {cs : List Value} {y : DataW H × List MemPlace} (hlen : cs.length = 4) (hc : ∀ i, i < 4 → w.cell? ⟨b, o + i, none⟩ = cs[i]?) (h : DataW.trod enc Tryz.prog w 0 (fun _ => true) true n 54 cs = some y) :
  ∃ r : Rd, (∀ i u, (rdEnc r)[i]? = some u → w.cell? ⟨b, o + i, none⟩ = some u) ∧ fit64 r.cut ∧ fit64 r.step ∧ fit64 r.lo ∧ fit64 r.hi := by
 match cs, hlen with
 | [v0, v1, v2, v3], _ =>
  obtain ⟨xs, m, -, -, -, hl, hg⟩ := DataW.trod_struct Tryz.underlying54 h
  obtain ⟨y0, hy0⟩ : ∃ y, xs[0]? = some y := ⟨_, List.getElem?_eq_getElem (by rw [hl]; decide)⟩
  obtain ⟨y1, hy1⟩ : ∃ y, xs[1]? = some y := ⟨_, List.getElem?_eq_getElem (by rw [hl]; decide)⟩
  obtain ⟨y2, hy2⟩ : ∃ y, xs[2]? = some y := ⟨_, List.getElem?_eq_getElem (by rw [hl]; decide)⟩
  obtain ⟨y3, hy3⟩ : ∃ y, xs[3]? = some y := ⟨_, List.getElem?_eq_getElem (by rw [hl]; decide)⟩
  obtain ⟨z0, rfl, f0⟩ := p_int (v := v0) ((hg 0 _ rfl).trans hy0)
  obtain ⟨z1, rfl, f1⟩ := p_int (v := v1) ((hg 1 _ rfl).trans hy1)
  obtain ⟨z2, rfl, f2⟩ := p_int (v := v2) ((hg 2 _ rfl).trans hy2)
  obtain ⟨z3, rfl, f3⟩ := p_int (v := v3) ((hg 3 _ rfl).trans hy3)
  refine ⟨⟨z0, z1, z2, z3⟩, fun i u hu => ?_, f0, f1, f2, f3⟩
  have hi : i < 4 := (List.getElem?_eq_some_iff.1 hu).1
  rw [hc i hi]; exact hu
theorem p_head {b o n : Nat} {cs : List Value} {y : DataW H × List MemPlace} (hlen : cs.length = 2) (hc : ∀ i, i < 2 → w.cell? ⟨b, o + i, none⟩ = cs[i]?) (h : DataW.trod enc Tryz.prog w 0 (fun _ => true) true n 44 cs = some y) :
  ∃ r : Hd, HeadAt w b o r ∧ (∀ x ∈ r.ros, fit64 x) ∧ ∀ x ∈ r.rub, fit64 x := by
 match cs, hlen with
 | [v0, v1], _ =>
  obtain ⟨xs, m, -, -, -, hl, hg⟩ := DataW.trod_struct Tryz.underlying44 h
  obtain ⟨y0, hy0⟩ : ∃ y, xs[0]? = some y := ⟨_, List.getElem?_eq_getElem (by rw [hl]; decide)⟩
  obtain ⟨y1, hy1⟩ : ∃ y, xs[1]? = some y := ⟨_, List.getElem?_eq_getElem (by rw [hl]; decide)⟩
  obtain ⟨z0, i0, f0⟩ := p_ints (v := v0) ((hg 0 _ rfl).trans hy0)
  obtain ⟨z1, i1, f1⟩ := p_ints (v := v1) ((hg 1 _ rfl).trans hy1)
  exact ⟨⟨z0, z1⟩, ⟨v0, v1, hc 0 (by decide), hc 1 (by decide), i0, i1⟩, f0, f1⟩
theorem open_pic {r : Reach} {b0 : Nat} {v : Value} {d : DataW H} {p : List MemPlace} (hv : Value.okWide Tryz.prog w r b0 25 v) (h : DataW.Trod enc Tryz.prog w 0 (fun _ => true) true 25 v d p) :
  ∃ a : Pic, IsPic w v a ∧ a.Fit := by
 obtain ⟨l, hl, rfl, hf⟩ := open_fields Tryz.underlying25 (by kernel_rfl) (by kernel_rfl) hv h
 match l, hl with
 | [v0, v1, v2, v3, v4, v5], _ =>
  obtain ⟨_, _, t0⟩ := hf 0 _ v0 rfl rfl
  obtain ⟨_, _, t1⟩ := hf 1 _ v1 rfl rfl
  obtain ⟨_, _, t2⟩ := hf 2 _ v2 rfl rfl
  obtain ⟨_, _, t3⟩ := hf 3 _ v3 rfl rfl
  obtain ⟨_, _, t4⟩ := hf 4 _ v4 rfl rfl
  obtain ⟨_, _, t5⟩ := hf 5 _ v5 rfl rfl
  obtain ⟨z1, rfl, f1⟩ := p_int t1
  obtain ⟨z2, rfl, f2⟩ := p_int t2
  obtain ⟨z3, rfl, f3⟩ := p_int t3
  obtain ⟨z4, rfl, f4⟩ := p_int t4
  obtain ⟨hs, A0, c0, rfl, a1, a2, a3, a4⟩ := open_rowsG Tryz.underlying22 (by kernel_rfl) (by decide) (fun b o (r : Hd) => HeadAt w b o r ∧ (∀ x ∈ r.ros, fit64 x) ∧ ∀ x ∈ r.rub, fit64 x) (fun b o n cs y q1 q2 q3 => p_head q1 q2 q3) t0
  obtain ⟨rs, A5, c5, rfl, b1, b2, b3, b4⟩ := open_rowsG Tryz.underlying23 (by kernel_rfl) (by decide) (fun b o (r : Rd) => (∀ i u, (rdEnc r)[i]? = some u → w.cell? ⟨b, o + i, none⟩ = some u) ∧ fit64 r.cut ∧ fit64 r.step ∧ fit64 r.lo ∧ fit64 r.hi) (fun b o n cs y q1 q2 q3 => p_read q1 q2 q3) t5
  refine ⟨⟨hs, z1, z2, z3, z4, rs⟩, ⟨_, _, rfl, ⟨A0, c0, rfl, a1, a2, a3, fun h0 => ?_⟩, ⟨A5, c5, rfl, b1, b2, b3, fun h0 => ?_⟩⟩, f1, f2, f3, f4, fun r hr => ?_, fun r hr => ?_⟩
  ·obtain ⟨b, off, e, hb, hq⟩ := a4 h0
   exact ⟨b, off, e, hb, fun j hj => (hq j hj).1⟩
  ·obtain ⟨b, off, e, hb, hq⟩ := b4 h0
   exact ⟨b, off, e, hb, fun j hj => (hq j hj).1⟩
  ·obtain ⟨j, hj, rfl⟩ := List.getElem_of_mem hr
   obtain ⟨b, off, e, hb, hq⟩ := b4 (by show 0 < rs.length; have : j < rs.length := hj; omega)
   exact (hq j hj).2
  ·obtain ⟨j, hj, rfl⟩ := List.getElem_of_mem hr
   obtain ⟨b, off, e, hb, hq⟩ := a4 (by show 0 < hs.length; have : j < hs.length := hj; omega)
   exact (hq j hj).2
theorem open_fnd {r : Reach} {b0 : Nat} {v : Value} {d : DataW H} {p : List MemPlace} (hv : Value.okWide Tryz.prog w r b0 35 v) (h : DataW.Trod enc Tryz.prog w 0 (fun _ => true) true 35 v d p) :
  ∃ a : Fnd, v = .agg #[.int .i64 a.head, .int .i64 a.throw, .int .i64 a.adv, .int .i64 a.lo, .int .i64 a.hi] ∧ (fit64 a.head ∧ fit64 a.throw ∧ fit64 a.adv ∧ fit64 a.lo ∧ fit64 a.hi) := by
 obtain ⟨l, hl, rfl, hf⟩ := open_fields Tryz.underlying35 (by kernel_rfl) (by kernel_rfl) hv h
 match l, hl with
 | [v0, v1, v2, v3, v4], _ =>
  obtain ⟨_, _, t0⟩ := hf 0 _ v0 rfl rfl
  obtain ⟨_, _, t1⟩ := hf 1 _ v1 rfl rfl
  obtain ⟨_, _, t2⟩ := hf 2 _ v2 rfl rfl
  obtain ⟨_, _, t3⟩ := hf 3 _ v3 rfl rfl
  obtain ⟨_, _, t4⟩ := hf 4 _ v4 rfl rfl
  obtain ⟨z0, rfl, f0⟩ := p_int t0
  obtain ⟨z1, rfl, f1⟩ := p_int t1
  obtain ⟨z2, rfl, f2⟩ := p_int t2
  obtain ⟨z3, rfl, f3⟩ := p_int t3
  obtain ⟨z4, rfl, f4⟩ := p_int t4
  exact ⟨⟨z0, z1, z2, z3, z4⟩, rfl, f0, f1, f2, f3, f4⟩
end
end Go.Proofs.YtphdalgaemefoaaGreat
