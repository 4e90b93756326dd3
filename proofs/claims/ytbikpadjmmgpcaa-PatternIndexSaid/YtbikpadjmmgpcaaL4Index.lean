/- The law PatternIndex: its walk. -/
import Derived.Test.YtbikpadjmmgpcaaIdxB
import Derived.Test.YtbikpadjmmgpcaaAlive
namespace Go.Proofs.Ytbikpadjmmgpcaa
open Go.RowKit Go.Shelf
set_option linter.unusedVariables false
set_option linter.unusedSimpArgs false
def MPred.frT (r : Rat) : MPred := ⟨fun v w => ∃ v', v = .tuple #[v', .int .i64 0] ∧ FracT w v' r, fun _ _ _ hb ⟨v', e, h⟩ => ⟨v', e, h.le hb⟩⟩
def MPred.frV (r : Rat) : MPred := ⟨fun v w => FracT w v r, fun _ _ _ hb h => h.le hb⟩
theorem set4_facts {w W : World} {k : Nat} {r : Rat} {f1 f5 : Bool} {f2 f6 : Option Addr} {f3 f4 f7 f8 : Nat} {t : TypeId} (hR : Le w W) (hk : w.heap.size ≤ k) (hx : W.heap[k]? = some (.cells #[.bool false, .slice none 0 0, .bool false, .slice none 0 0] t)) (hf : FracT W (.agg #[.bool f1, .slice f2 f3 f4, .bool f5, .slice f6 f7 f8]) r) :
    ∃ V, ((((W.setCell ⟨k, 0, none⟩ (.bool f1)).setCell ⟨k, 1, none⟩ (.slice f2 f3 f4)).setCell ⟨k, 2, none⟩ (.bool f5)).setCell ⟨k, 3, none⟩ (.slice f6 f7 f8)) = V ∧ Le w V ∧ V.heap[k]? = some (.cells #[.bool f1, .slice f2 f3 f4, .bool f5, .slice f6 f7 f8] t) ∧ FracT V (.agg #[.bool f1, .slice f2 f3 f4, .bool f5, .slice f6 f7 f8]) r :=
  ⟨_, rfl, le_set4 hR hk, heap_set4 hx, hf.touch (noInt4 hx) (touch_set4 _ _ _ _ _ _)⟩
/-- Fractions stay as they are. -/
def fracRel : WRel := ⟨fun a b => a.heap.size ≤ b.heap.size ∧ ∀ v r, FracT a v r → FracT b v r, fun w => ⟨Nat.le_refl _, fun _ _ h => h⟩, fun h k => ⟨Nat.le_trans h.1 k.1, fun v r x => k.2 v r (h.2 v r x)⟩, fun w => ⟨Nat.le_refl _, fun _ _ h => h.le Le.drew⟩⟩
theorem fracRel_le {a b : World} (h : Le a b) : fracRel.r a b := ⟨h.size, fun _ _ x => x.le h⟩
def FPred.frT (r : Rat) : MPredR fracRel := ⟨fun v w => ∃ v', v = .tuple #[v', .int .i64 0] ∧ FracT w v' r, fun _ _ _ hb ⟨v', e, h⟩ => ⟨v', e, hb.2 _ _ h⟩⟩
def FPred.frV (r : Rat) : MPredR fracRel := ⟨fun v w => FracT w v r, fun _ _ _ hb h => hb.2 _ _ h⟩
/-- The box that operation 31 makes and operation 32 fills with what operation 29 took out. -/
def GBox (V1 : World) (t : TypeId) : JRel := fun D x W => Le V1 W ∧ (D 32 = true → D 29 = true ∧ D 31 = true) ∧ (D 31 = true → ∃ k, x 31 = .pointer (some ⟨k, 0, none⟩) ∧ V1.heap.size ≤ k ∧
  ((D 32 = false ∧ W.heap[k]? = some (.cells #[.bool false, .slice none 0 0, .bool false, .slice none 0 0] t)) ∨
    (D 32 = true ∧ ∃ f1 f2 f3 f4 f5 f6 f7 f8, x 29 = .agg #[.bool f1, .slice f2 f3 f4, .bool f5, .slice f6 f7 f8] ∧ W.heap[k]? = some (.cells #[.bool f1, .slice f2 f3 f4, .bool f5, .slice f6 f7 f8] t))))
theorem GBox.keep {V1 : World} {t : TypeId} {D : Nat → Bool} {x : Nat → Value} {W W' : World} {i : Nat} {v : Value} (h : GBox V1 t D x W) (h1 : (i == 31 || i == 32 || i == 29) = false) (hle : Le W W') : GBox V1 t (updB D i) (updV x i v) W' := by
  simp only [Bool.or_eq_false_iff, beq_eq_false_iff_ne] at h1
  obtain ⟨⟨n1, n2⟩, n3⟩ := h1
  obtain ⟨a, b, c⟩ := h
  have d31 : updB D i 31 = D 31 := by unfold updB; rw [if_neg (Ne.symm n1)]
  have d32 : updB D i 32 = D 32 := by unfold updB; rw [if_neg (Ne.symm n2)]
  have d29 : updB D i 29 = D 29 := by unfold updB; rw [if_neg (Ne.symm n3)]
  have x31 : updV x i v 31 = x 31 := by unfold updV; rw [if_neg (Ne.symm n1)]
  have x29 : updV x i v 29 = x 29 := by unfold updV; rw [if_neg (Ne.symm n3)]
  unfold GBox
  rw [d31, d32, d29, x31, x29]
  refine ⟨a.trans hle, b, fun h => ?_⟩
  obtain ⟨k, c1, c2, ⟨c3, c4⟩ | ⟨c3, f1, f2, f3, f4, f5, f6, f7, f8, c4, c5⟩⟩ := c h
  · exact ⟨k, c1, c2, .inl ⟨c3, box_later hle c4⟩⟩
  · exact ⟨k, c1, c2, .inr ⟨c3, f1, f2, f3, f4, f5, f6, f7, f8, c4, box_later hle c5⟩⟩
theorem GBox.take {V1 : World} {t : TypeId} {D : Nat → Bool} {x : Nat → Value} {W : World} {v : Value} (h : GBox V1 t D x W) (hD : D 29 = false) : GBox V1 t (updB D 29) (updV x 29 v) W := by
  obtain ⟨a, b, c⟩ := h
  have hn : D 32 = false := by
    cases e : D 32 with
    | false => rfl
    | true => have := (b e).1; rw [hD] at this; cases this
  have d31 : updB D 29 31 = D 31 := rfl
  have d32 : updB D 29 32 = D 32 := rfl
  unfold GBox
  rw [d31, d32]
  refine ⟨a, fun h => (by rw [hn] at h; cases h), fun h => ?_⟩
  obtain ⟨k, c1, c2, ⟨c3, c4⟩ | ⟨c3, -⟩⟩ := c h
  · exact ⟨k, c1, c2, .inl ⟨c3, c4⟩⟩
  · rw [hn] at c3; cases c3
theorem GBox.make {V1 : World} {t : TypeId} {D : Nat → Bool} {x : Nat → Value} {W : World} (h : GBox V1 t D x W) (hD : D 31 = false) :
    GBox V1 t (updB D 31) (updV x 31 (.pointer (some ⟨W.heap.size, 0, none⟩))) (W.alloc (.cells #[.bool false, .slice none 0 0, .bool false, .slice none 0 0] t)) := by
  obtain ⟨a, b, c⟩ := h
  have hn : D 32 = false := by
    cases e : D 32 with
    | false => rfl
    | true => have := (b e).2; rw [hD] at this; cases this
  have d32 : updB D 31 32 = D 32 := rfl
  refine ⟨a.trans (le_alloc _ _), fun h => (by rw [d32, hn] at h; cases h), fun _ => ⟨W.heap.size, rfl, a.size, .inl ⟨by rw [d32]; exact hn, alc_at _ _⟩⟩⟩
theorem GBox.ready {V1 : World} {t : TypeId} {D : Nat → Bool} {x : Nat → Value} {W : World} (h : GBox V1 t D x W) (h1 : D 31 = true) (h2 : D 32 = false) :
    ∃ k, x 31 = .pointer (some ⟨k, 0, none⟩) ∧ V1.heap.size ≤ k ∧ W.heap[k]? = some (.cells #[.bool false, .slice none 0 0, .bool false, .slice none 0 0] t) := by
  obtain ⟨k, c1, c2, ⟨c3, c4⟩ | ⟨c3, -⟩⟩ := h.2.2 h1
  · exact ⟨k, c1, c2, c4⟩
  · rw [h2] at c3; cases c3
theorem GBox.put {V1 : World} {t : TypeId} {D : Nat → Bool} {x : Nat → Value} {W : World} {v : Value} {k : Nat} {f1 f5 : Bool} {f2 f6 : Option Addr} {f3 f4 f7 f8 : Nat} (h : GBox V1 t D x W) (h1 : D 31 = true) (h3 : D 29 = true) (hk : x 31 = .pointer (some ⟨k, 0, none⟩)) (hV : V1.heap.size ≤ k)
    (hx : W.heap[k]? = some (.cells #[.bool false, .slice none 0 0, .bool false, .slice none 0 0] t)) (hf : x 29 = .agg #[.bool f1, .slice f2 f3 f4, .bool f5, .slice f6 f7 f8]) :
    GBox V1 t (updB D 32) (updV x 32 v) ((((W.setCell ⟨k, 0, none⟩ (.bool f1)).setCell ⟨k, 1, none⟩ (.slice f2 f3 f4)).setCell ⟨k, 2, none⟩ (.bool f5)).setCell ⟨k, 3, none⟩ (.slice f6 f7 f8)) ∧
    fracRel.r W ((((W.setCell ⟨k, 0, none⟩ (.bool f1)).setCell ⟨k, 1, none⟩ (.slice f2 f3 f4)).setCell ⟨k, 2, none⟩ (.bool f5)).setCell ⟨k, 3, none⟩ (.slice f6 f7 f8)) := by
  have ht := touch_set4 W k (.bool f1) (.slice f2 f3 f4) (.bool f5) (.slice f6 f7 f8)
  exact ⟨⟨le_set4 h.1 hV, fun _ => ⟨h3, h1⟩, fun _ => ⟨k, hk, hV, .inr ⟨rfl, f1, f2, f3, f4, f5, f6, f7, f8, hf, heap_set4 hx⟩⟩⟩, by rw [ht.1]; exact Nat.le_refl _, fun v r hr => hr.touch (noInt4 hx) ht⟩
theorem GBox.full {V1 : World} {t : TypeId} {D : Nat → Bool} {x : Nat → Value} {W : World} (h : GBox V1 t D x W) (h1 : D 31 = true) (h2 : D 32 = true) :
    ∃ k, x 31 = .pointer (some ⟨k, 0, none⟩) ∧ V1.heap.size ≤ k ∧ ∃ f1 f2 f3 f4 f5 f6 f7 f8, x 29 = .agg #[.bool f1, .slice f2 f3 f4, .bool f5, .slice f6 f7 f8] ∧ W.heap[k]? = some (.cells #[.bool f1, .slice f2 f3 f4, .bool f5, .slice f6 f7 f8] t) := by
  obtain ⟨k, c1, c2, ⟨c3, -⟩ | ⟨c3, f⟩⟩ := h.2.2 h1
  · rw [h2] at c3; cases c3
  · exact ⟨k, c1, c2, f⟩
theorem GBox.start (V1 : World) (t : TypeId) (n : Nat) (hn : 32 < n) : ∀ D x, (∀ j, j < n → D j = false) → GBox V1 t D x { V1 with drawn := V1.drawn + 1 } := fun D x hD =>
  ⟨Le.drew, fun h => (by rw [hD 32 hn] at h; cases h), fun h => (by rw [hD 31 (by omega)] at h; cases h)⟩
/-- A hole of a plate: what its fraction is made of. -/
theorem hole_facts {U D n k : Nat} (hD1 : 1 ≤ D) (hD2 : D ≤ 1000) (hUD : U ≤ D) (hn1 : 1 ≤ n) (hn2 : n ≤ 360) (hk : k ≤ n) :
    ∃ X P DD : Nat, (k : Int) * (D : Int) = (X : Int) ∧ (U : Int) * (n : Int) = (P : Int) ∧ (D : Int) * (n : Int) = (DD : Int) ∧ X ≤ 360000 ∧ P ≤ 360000 ∧ 0 < DD ∧ DD ≤ 360000 ∧ Rsz (farR U D n k) 40 ∧
      ∃ z : Int, ((X < P ∧ z = (P : Int) - (X : Int)) ∨ (P ≤ X ∧ z = (X : Int) - (P : Int))) ∧ -1000000 ≤ z ∧ z ≤ 1000000 ∧ ratioR z (DD : Int) = .ok (farR U D n k) := by
  have hX : k * D ≤ 360000 := Nat.le_trans (Nat.mul_le_mul (Nat.le_trans hk hn2) hD2) (by decide)
  have hP : n * U ≤ 360000 := Nat.le_trans (Nat.mul_le_mul hn2 (Nat.le_trans hUD hD2)) (by decide)
  have hE : n * D ≤ 360000 := Nat.le_trans (Nat.mul_le_mul hn2 hD2) (by decide)
  have hE0 : 0 < n * D := Nat.mul_pos (by omega) (by omega)
  have hfar : farN U D n k = (((k * D : Nat) : Int) - ((n * U : Nat) : Int)).natAbs := by unfold farN; simp
  have hs : Rsz (farR U D n k) 40 := far_sz hE0 (by omega) (by rw [hfar]; omega)
  refine ⟨k * D, n * U, n * D, by simp, by rw [Nat.mul_comm]; simp, by rw [Nat.mul_comm]; simp, hX, hP, hE0, hE, hs, ?_⟩
  rcases Nat.lt_or_ge (k * D) (n * U) with h | h
  · exact ⟨((n * U : Nat) : Int) - ((k * D : Nat) : Int), .inl ⟨h, rfl⟩, by omega, by omega, ratio_far (by rw [hfar]; omega) rfl hE0 hs⟩
  · exact ⟨((k * D : Nat) : Int) - ((n * U : Nat) : Int), .inr ⟨h, rfl⟩, by omega, by omega, ratio_far (by rw [hfar]; omega) rfl hE0 hs⟩
theorem pf_pat_Index (ps : List Int) (num den : Int) (v : Value) (w : World) (hv : Ints w v ps) : Calls Try.prog 5 #[v, .int .i64 num, .int .i64 den] w (IdxPost ps num den w) := by
  by_cases h : idxE ps num den = 0
  · exact pf_pat_Index_ok ps num den v w hv h
  · exact pf_pat_Index_bad ps num den v w hv h
set_option maxRecDepth 100000 in
set_option maxHeartbeats 3000000 in
theorem law_PatternIndex (ps : List Int) (x0 : Value) (num den a3 a4 : Int) (w : World) (h0 : Ints w x0 ps ∧ ∀ n ∈ ps, (Lit.int .i64 n).wf = true) (h1 : (Lit.int .i64 num).wf = true) (h2 : (Lit.int .i64 den).wf = true) (h3 : (Lit.int .u8 a3).wf = true) (h4 : (Lit.int .u16 a4).wf = true) :
    Calls Try.prog 3 #[x0, .int .i64 num, .int .i64 den, .int .u8 a3, .int .u16 a4] w fun e w' => e = .returned (.bool true) ∧ Below w.heap.size w w' := by
  obtain ⟨h0, -⟩ := h0
  have hA3' : IntKind.u8.min ≤ a3 ∧ a3 ≤ IntKind.u8.max := by simpa [Lit.wf] using h3
  have hA4' : IntKind.u16.min ≤ a4 ∧ a4 ≤ IntKind.u16.max := by simpa [Lit.wf] using h4
  have hA3 : 0 ≤ a3 ∧ a3 ≤ 255 := hA3'
  have hA4 : 0 ≤ a4 ∧ a4 ≤ 65535 := hA4'
  clear h1 h2 h3 h4 hA3' hA4'
  obtain ⟨aj, rfl⟩ : ∃ n : Nat, a3 = n := ⟨a3.toNat, by omega⟩
  obtain ⟨ah, rfl⟩ : ∃ n : Nat, a4 = n := ⟨a4.toNat, by omega⟩
  have hk := h0
  obtain ⟨A0, c0, rfl, l0, m0, -, -⟩ := hk
  unfold maxLen at m0
  have hal := pf_alive w
  by_cases hbig : 16 < ps.length
  · have hb2 : (16 : Int) < (ps.length : Int) := by omega
    have h0' := Lib.hid h0
    have hA3' := Lib.hid hA3
    have hA4' := Lib.hid hA4
    have hal' := Lib.hid hal
    clear hal hA4 hA3 h0
    go_enter Try.func3, Try.ntmps3
    go_wp2_with (first | (go_at_call 4; ((with_reducible refine (hal'.out).mono ?_); rintro e w' ⟨rfl, hle1⟩)))
    go_ret
    exact ⟨rfl, hle1⟩
  · have hb2 : ¬ (16 : Int) < (ps.length : Int) := by omega
    have h0' := Lib.hid h0
    have hA3' := Lib.hid hA3
    have hA4' := Lib.hid hA4
    have hal' := Lib.hid hal
    clear hal hA4 hA3 h0
    go_enter Try.func3, Try.ntmps3
    go_wp2_with (fail)
    go_at_call 4
    refine hal'.out.mono ?_
    rintro e W1 ⟨rfl, hle1⟩
    have hidx := pf_pat_Index ps num den _ W1 (h0'.out.below hle1)
    unfold IdxPost at hidx
    by_cases hE : idxE ps num den = 0
    · obtain ⟨hl0, hl16, -, -, -, hps, U, D, rfl, rfl, hD1, hD2, hUD⟩ := idx_facts hE
      have hV : idxV ps (U : Int) (D : Int) = (((idxF ps (U : Int) (D : Int)).1 : Int), ((idxF ps (U : Int) (D : Int)).2.1 : Int), .ok (idxF ps (U : Int) (D : Int)).2.2) := by unfold idxV; rw [if_pos hE]
      have hns : ∀ j, j < (ps.map Int.toNat).length → 0 < (ps.map Int.toNat).getD j 0 := fun j hj => by
        have hj2 : j < ps.length := by simpa using hj
        rw [natMap_get ps hj2 (n := ps[j].toNat) (by have := hps j hj2; omega)]
        have := hps j hj2
        omega
      obtain ⟨L, hL⟩ : ∃ L, ps.length = L + 1 := ⟨ps.length - 1, by omega⟩
      have hbest := idxL_best (num := U) (den := D) (ns := ps.map Int.toNat) (by omega) hns L (by simp; omega)
      have hF : idxF ps (U : Int) (D : Int) = idxL U D (ps.map Int.toNat) (L + 1) := by unfold idxF; rw [hL]; rfl
      rw [← hF] at hbest
      rw [hV, hE] at hidx
      simp only at hidx
      have hget : ∀ j (hj : j < ps.length), ∃ n : Nat, ps[j] = (n : Int) ∧ 1 ≤ n ∧ n ≤ 360 ∧ (ps.map Int.toNat).getD j 0 = n := fun j hj => by
        obtain ⟨h1, h2⟩ := hps j hj
        have e : ps[j] = (ps[j].toNat : Int) := by omega
        exact ⟨ps[j].toNat, e, by omega, by omega, natMap_get ps hj e⟩
      obtain ⟨t, ht⟩ : ∃ t, idxF ps (U : Int) (D : Int) = t := ⟨_, rfl⟩
      rw [ht] at hbest hidx
      obtain ⟨I, K, R0⟩ := t
      obtain ⟨b1, b2, b3, b4⟩ := hbest
      simp only at b1 b2 b3 b4 hidx
      have hIl : I < ps.length := by omega
      obtain ⟨n, hn0, hn1, hn2, hn3⟩ := hget I hIl
      rw [hn3] at b2 b3
      subst b3
      obtain ⟨la, lo, c', heq, hla, -, -, hcl⟩ := Ints.cells h0'.out hl0
      injection heq with q1 q2 q3
      subst q1 q3
      clear q2 hns hps
      obtain ⟨R, hR⟩ : ∃ R, farR U D n K = R := ⟨_, rfl⟩
      rw [hR] at hidx b4
      have hle1' := Lib.hid hle1
      have hidx' := Lib.hid hidx
      have hE' := Lib.hid hE
      have hV' := Lib.hid hV
      have hL' := Lib.hid hL
      have hF' := Lib.hid hF
      have ht' := Lib.hid ht
      have hn0' := Lib.hid hn0
      have hn3' := Lib.hid hn3
      have hget' := Lib.hid hget
      have b4' := Lib.hid b4
      have hcl' := Lib.hid hcl
      have hR' := Lib.hid hR
      clear hR hcl b4 hget hn3 hn0 ht hF hL hV hE hidx hle1
      go_wp2_with (fail)
      go_at_call 5
      refine hidx'.out.mono ?_
      rintro e W2 ⟨hb2', vx, rfl, hrx, -⟩
      have hrx0 := hrx
      obtain ⟨r1, r2, r3, r4, r5, r6, r7, r8, rfl⟩ := hrx.fform
      obtain ⟨W5, hW5, hle5, k5⟩ : ∃ W5, W2.alloc (.cells #[.bool r1, .slice r2 r3 r4, .bool r5, .slice r6 r7 r8] 29) = W5 ∧ Le W2 W5 ∧ W5.heap[W2.heap.size]? = some (.cells #[.bool r1, .slice r2 r3 r4, .bool r5, .slice r6 r7 r8] 29) := ⟨_, rfl, le_alloc _ _, alc_at _ _⟩
      have hle05 : Le w W5 := Le.trans hle1'.out (Le.trans hb2' hle5)
      have hX5 := hrx0.le hle5
      have hck1 : W5.cell? ⟨la, lo + I, none⟩ = some (.int .i64 (n : Int)) := by rw [← hn0'.out]; exact (hle05.cell (p := ⟨la, lo + I, none⟩) hla).trans (hcl'.out I hIl)
      have hla1 : la < W5.heap.size := Nat.lt_of_lt_of_le hla hle05.size
      have i1 : (I : Int) < (ps.length : Int) := by omega
      have i2 : (0 : Int) ≤ (I : Int) := by omega
      have i3 : ¬ (ps.length : Int) ≤ (I : Int) := by omega
      have i4 : ¬ (n : Int) < (K : Int) := by omega
      have i5 : ¬ ps.length ≤ I := by omega
      have i6 : ¬ n < K := by omega
      obtain ⟨X, P, DD, eK, eU, eD, hXb, hPb, hDD0, hDDb, hsR, z, hz1, hzb1, hzb2, hzr⟩ := hole_facts (k := K) hD1 hD2 hUD hn1 hn2 b2
      rw [hR'.out] at hzr hsR
      have hcall1 := fun (W : World) => pf_Ratio (fun _ => True) z (DD : Int) W (Up.any _) (by omega) (by omega) (by omega) (by omega)
      simp only [hzr] at hcall1
      have hb2'' := Lib.hid hb2'
      have hrx' := Lib.hid hrx
      have hrx0' := Lib.hid hrx0
      have hle5' := Lib.hid hle5
      have k5' := Lib.hid k5
      have hle05' := Lib.hid hle05
      have hX5' := Lib.hid hX5
      have hsR' := Lib.hid hsR
      have hzr' := Lib.hid hzr
      have hcall1' := Lib.hid hcall1
      clear hcall1 hzr hsR hX5 hle05 k5 hle5 hrx0 hrx hb2'
      go_wp2_with (fail)
      clear hW5
      refine wp_region_GT (R := fracRel) 33 [some 73, some 74, some 75, some 76, some 77, some 78, some 79, some 80, some 81, some 82, some 83, some 84, some 85, some 86, some 87, some 88, some 89, some 90, some 91, some 92, some 93, some 94, some 95, some 96, some 97, some 98, some 99, some 100, some 72, some 101, some 102, some 16, none, some 17] [[], [], [0, 1], [], [], [], [4, 5], [6], [3, 7], [2, 8], [], [], [], [11, 12], [13], [10, 14], [], [], [16, 17], [15, 18], [9, 19], [], [], [], [22, 23], [24], [21, 25], [20, 26], [27], [28], [28], [], [29, 31], [30]]
        [.eq (.int .i64 (K : Nat)), .eq (.int .i64 (D : Nat)), .eq (.int .i64 (X : Nat)), .eq (.int .i64 (U : Nat)), .eq (.slice (some ⟨la, lo, none⟩) ps.length c0), .eq (.int .i64 (I : Nat)), .eq (.pointer (some ⟨la, lo + I, none⟩)), .eq (.int .i64 (n : Nat)), .eq (.int .i64 (P : Nat)), .eq (.int .i64 ((X : Int) - (P : Int))), .eq (.int .i64 (U : Nat)), .eq (.slice (some ⟨la, lo, none⟩) ps.length c0), .eq (.int .i64 (I : Nat)), .eq (.pointer (some ⟨la, lo + I, none⟩)), .eq (.int .i64 (n : Nat)), .eq (.int .i64 (P : Nat)), .eq (.int .i64 (K : Nat)), .eq (.int .i64 (D : Nat)), .eq (.int .i64 (X : Nat)), .eq (.int .i64 ((P : Int) - (X : Int))), .eq (.int .i64 z), .eq (.int .i64 (D : Nat)), .eq (.slice (some ⟨la, lo, none⟩) ps.length c0), .eq (.int .i64 (I : Nat)), .eq (.pointer (some ⟨la, lo + I, none⟩)), .eq (.int .i64 (n : Nat)), .eq (.int .i64 (DD : Nat)), FPred.frT R, FPred.frT R, FPred.frV R, .eq (.int .i64 0), MPredR.any, MPredR.any] (GBox W5 29) (fun _ _ => False) (by kernel_rfl) (by kernel_rfl) (by kernel_rfl) (by kernel_rfl) (by kernel_rfl) (GBox.start W5 29 _ (by decide)) ?_ (fun _ _ _ _ h => h.elim) ?_
      · simp only [List.take_succ_cons, List.take_zero]
        refine stepsG_cons rfl ?_ (stepsG_cons rfl ?_ (stepsG_cons rfl ?_ (stepsG_cons rfl ?_ (stepsG_cons rfl ?_ (stepsG_cons rfl ?_ (stepsG_cons rfl ?_ (stepsG_cons rfl ?_ (stepsG_cons rfl ?_ (stepsG_cons rfl ?_ (stepsG_cons rfl ?_ (stepsG_cons rfl ?_ (stepsG_cons rfl ?_ (stepsG_cons rfl ?_ (stepsG_cons rfl ?_ (stepsG_cons rfl ?_ (stepsG_cons rfl ?_ (stepsG_cons rfl ?_ (stepsG_cons rfl ?_ (stepsG_cons rfl ?_ (stepsG_cons rfl ?_ (stepsG_cons rfl ?_ (stepsG_cons rfl ?_ (stepsG_cons rfl ?_ (stepsG_cons rfl ?_ (stepsG_cons rfl ?_ (stepsG_cons rfl ?_ (stepsG_cons rfl ?_ (stepsG_cons rfl ?_ (stepsG_cons rfl ?_ (stepsG_cons rfl ?_ (stepsG_cons rfl ?_ (stepsG_cons rfl ?_ (stepsG_nil)))))))))))))))))))))))))))))))))
        · intro Dn xv W hD hdp hR hf hG Q hK hP
          simp only [fillAct, List.getD_cons_succ, List.getD_cons_zero, Act.put, List.setIfInBounds_toArray, List.set_cons_succ, List.set_cons_zero] at hK ⊢
          go_wp2
          exact hK _ _ (fracRel_le (Le.refl _)) rfl (hG.keep rfl (Le.refl _))
        · intro Dn xv W hD hdp hR hf hG Q hK hP
          simp only [fillAct, List.getD_cons_succ, List.getD_cons_zero, Act.put, List.setIfInBounds_toArray, List.set_cons_succ, List.set_cons_zero] at hK ⊢
          go_wp2
          exact hK _ _ (fracRel_le (Le.refl _)) rfl (hG.keep rfl (Le.refl _))
        · intro Dn xv W hD hdp hR hf hG Q hK hP
          obtain ⟨e0, e1, -⟩ := hf
          change _ = _ at e0 e1
          simp only [fillAct, List.getD_cons_succ, List.getD_cons_zero, Act.put, List.setIfInBounds_toArray, List.set_cons_succ, List.set_cons_zero, e0, e1] at hK ⊢
          go_wp2
          exact hK _ _ (fracRel_le (Le.refl _)) rfl (hG.keep rfl (Le.refl _))
        · intro Dn xv W hD hdp hR hf hG Q hK hP
          simp only [fillAct, List.getD_cons_succ, List.getD_cons_zero, Act.put, List.setIfInBounds_toArray, List.set_cons_succ, List.set_cons_zero] at hK ⊢
          go_wp2
          exact hK _ _ (fracRel_le (Le.refl _)) rfl (hG.keep rfl (Le.refl _))
        · intro Dn xv W hD hdp hR hf hG Q hK hP
          simp only [fillAct, List.getD_cons_succ, List.getD_cons_zero, Act.put, List.setIfInBounds_toArray, List.set_cons_succ, List.set_cons_zero] at hK ⊢
          go_wp2
          exact hK _ _ (fracRel_le (Le.refl _)) rfl (hG.keep rfl (Le.refl _))
        · intro Dn xv W hD hdp hR hf hG Q hK hP
          simp only [fillAct, List.getD_cons_succ, List.getD_cons_zero, Act.put, List.setIfInBounds_toArray, List.set_cons_succ, List.set_cons_zero] at hK ⊢
          go_wp2
          exact hK _ _ (fracRel_le (Le.refl _)) rfl (hG.keep rfl (Le.refl _))
        · intro Dn xv W hD hdp hR hf hG Q hK hP
          obtain ⟨e0, e1, -⟩ := hf
          change _ = _ at e0 e1
          simp only [fillAct, List.getD_cons_succ, List.getD_cons_zero, Act.put, List.setIfInBounds_toArray, List.set_cons_succ, List.set_cons_zero, e0, e1] at hK ⊢
          go_wp2
          exact hK _ _ (fracRel_le (Le.refl _)) rfl (hG.keep rfl (Le.refl _))
        · intro Dn xv W hD hdp hR hf hG Q hK hP
          obtain ⟨e0, -⟩ := hf
          change _ = _ at e0
          have hRb := hG.1
          have cc := (Below.cell hRb (p := ⟨la, lo + I, none⟩) hla1).trans hck1
          clear hRb
          simp only [fillAct, List.getD_cons_succ, List.getD_cons_zero, Act.put, List.setIfInBounds_toArray, List.set_cons_succ, List.set_cons_zero, e0] at hK ⊢
          go_wp2
          exact hK _ _ (fracRel_le (Le.refl _)) rfl (hG.keep rfl (Le.refl _))
        · intro Dn xv W hD hdp hR hf hG Q hK hP
          obtain ⟨e0, e1, -⟩ := hf
          change _ = _ at e0 e1
          simp only [fillAct, List.getD_cons_succ, List.getD_cons_zero, Act.put, List.setIfInBounds_toArray, List.set_cons_succ, List.set_cons_zero, e0, e1] at hK ⊢
          go_wp2
          exact hK _ _ (fracRel_le (Le.refl _)) rfl (hG.keep rfl (Le.refl _))
        · intro Dn xv W hD hdp hR hf hG Q hK hP
          obtain ⟨e0, e1, -⟩ := hf
          change _ = _ at e0 e1
          simp only [fillAct, List.getD_cons_succ, List.getD_cons_zero, Act.put, List.setIfInBounds_toArray, List.set_cons_succ, List.set_cons_zero, e0, e1] at hK ⊢
          go_wp2
          exact hK _ _ (fracRel_le (Le.refl _)) rfl (hG.keep rfl (Le.refl _))
        · intro Dn xv W hD hdp hR hf hG Q hK hP
          simp only [fillAct, List.getD_cons_succ, List.getD_cons_zero, Act.put, List.setIfInBounds_toArray, List.set_cons_succ, List.set_cons_zero] at hK ⊢
          go_wp2
          exact hK _ _ (fracRel_le (Le.refl _)) rfl (hG.keep rfl (Le.refl _))
        · intro Dn xv W hD hdp hR hf hG Q hK hP
          simp only [fillAct, List.getD_cons_succ, List.getD_cons_zero, Act.put, List.setIfInBounds_toArray, List.set_cons_succ, List.set_cons_zero] at hK ⊢
          go_wp2
          exact hK _ _ (fracRel_le (Le.refl _)) rfl (hG.keep rfl (Le.refl _))
        · intro Dn xv W hD hdp hR hf hG Q hK hP
          simp only [fillAct, List.getD_cons_succ, List.getD_cons_zero, Act.put, List.setIfInBounds_toArray, List.set_cons_succ, List.set_cons_zero] at hK ⊢
          go_wp2
          exact hK _ _ (fracRel_le (Le.refl _)) rfl (hG.keep rfl (Le.refl _))
        · intro Dn xv W hD hdp hR hf hG Q hK hP
          obtain ⟨e0, e1, -⟩ := hf
          change _ = _ at e0 e1
          simp only [fillAct, List.getD_cons_succ, List.getD_cons_zero, Act.put, List.setIfInBounds_toArray, List.set_cons_succ, List.set_cons_zero, e0, e1] at hK ⊢
          go_wp2
          exact hK _ _ (fracRel_le (Le.refl _)) rfl (hG.keep rfl (Le.refl _))
        · intro Dn xv W hD hdp hR hf hG Q hK hP
          obtain ⟨e0, -⟩ := hf
          change _ = _ at e0
          have hRb := hG.1
          have cc := (Below.cell hRb (p := ⟨la, lo + I, none⟩) hla1).trans hck1
          clear hRb
          simp only [fillAct, List.getD_cons_succ, List.getD_cons_zero, Act.put, List.setIfInBounds_toArray, List.set_cons_succ, List.set_cons_zero, e0] at hK ⊢
          go_wp2
          exact hK _ _ (fracRel_le (Le.refl _)) rfl (hG.keep rfl (Le.refl _))
        · intro Dn xv W hD hdp hR hf hG Q hK hP
          obtain ⟨e0, e1, -⟩ := hf
          change _ = _ at e0 e1
          simp only [fillAct, List.getD_cons_succ, List.getD_cons_zero, Act.put, List.setIfInBounds_toArray, List.set_cons_succ, List.set_cons_zero, e0, e1] at hK ⊢
          go_wp2
          exact hK _ _ (fracRel_le (Le.refl _)) rfl (hG.keep rfl (Le.refl _))
        · intro Dn xv W hD hdp hR hf hG Q hK hP
          simp only [fillAct, List.getD_cons_succ, List.getD_cons_zero, Act.put, List.setIfInBounds_toArray, List.set_cons_succ, List.set_cons_zero] at hK ⊢
          go_wp2
          exact hK _ _ (fracRel_le (Le.refl _)) rfl (hG.keep rfl (Le.refl _))
        · intro Dn xv W hD hdp hR hf hG Q hK hP
          simp only [fillAct, List.getD_cons_succ, List.getD_cons_zero, Act.put, List.setIfInBounds_toArray, List.set_cons_succ, List.set_cons_zero] at hK ⊢
          go_wp2
          exact hK _ _ (fracRel_le (Le.refl _)) rfl (hG.keep rfl (Le.refl _))
        · intro Dn xv W hD hdp hR hf hG Q hK hP
          obtain ⟨e0, e1, -⟩ := hf
          change _ = _ at e0 e1
          simp only [fillAct, List.getD_cons_succ, List.getD_cons_zero, Act.put, List.setIfInBounds_toArray, List.set_cons_succ, List.set_cons_zero, e0, e1] at hK ⊢
          go_wp2
          exact hK _ _ (fracRel_le (Le.refl _)) rfl (hG.keep rfl (Le.refl _))
        · intro Dn xv W hD hdp hR hf hG Q hK hP
          obtain ⟨e0, e1, -⟩ := hf
          change _ = _ at e0 e1
          simp only [fillAct, List.getD_cons_succ, List.getD_cons_zero, Act.put, List.setIfInBounds_toArray, List.set_cons_succ, List.set_cons_zero, e0, e1] at hK ⊢
          go_wp2
          exact hK _ _ (fracRel_le (Le.refl _)) rfl (hG.keep rfl (Le.refl _))
        · intro Dn xv W hD hdp hR hf hG Q hK hP
          obtain ⟨e0, e1, -⟩ := hf
          change _ = _ at e0 e1
          simp only [fillAct, List.getD_cons_succ, List.getD_cons_zero, Act.put, List.setIfInBounds_toArray, List.set_cons_succ, List.set_cons_zero, e0, e1] at hK ⊢
          go_wp2
          exact hK _ _ (fracRel_le (Le.refl _)) (by show Value.int _ _ = Value.int _ _; congr 1; omega) (hG.keep rfl (Le.refl _))
        · intro Dn xv W hD hdp hR hf hG Q hK hP
          simp only [fillAct, List.getD_cons_succ, List.getD_cons_zero, Act.put, List.setIfInBounds_toArray, List.set_cons_succ, List.set_cons_zero] at hK ⊢
          go_wp2
          exact hK _ _ (fracRel_le (Le.refl _)) rfl (hG.keep rfl (Le.refl _))
        · intro Dn xv W hD hdp hR hf hG Q hK hP
          simp only [fillAct, List.getD_cons_succ, List.getD_cons_zero, Act.put, List.setIfInBounds_toArray, List.set_cons_succ, List.set_cons_zero] at hK ⊢
          go_wp2
          exact hK _ _ (fracRel_le (Le.refl _)) rfl (hG.keep rfl (Le.refl _))
        · intro Dn xv W hD hdp hR hf hG Q hK hP
          simp only [fillAct, List.getD_cons_succ, List.getD_cons_zero, Act.put, List.setIfInBounds_toArray, List.set_cons_succ, List.set_cons_zero] at hK ⊢
          go_wp2
          exact hK _ _ (fracRel_le (Le.refl _)) rfl (hG.keep rfl (Le.refl _))
        · intro Dn xv W hD hdp hR hf hG Q hK hP
          obtain ⟨e0, e1, -⟩ := hf
          change _ = _ at e0 e1
          simp only [fillAct, List.getD_cons_succ, List.getD_cons_zero, Act.put, List.setIfInBounds_toArray, List.set_cons_succ, List.set_cons_zero, e0, e1] at hK ⊢
          go_wp2
          exact hK _ _ (fracRel_le (Le.refl _)) rfl (hG.keep rfl (Le.refl _))
        · intro Dn xv W hD hdp hR hf hG Q hK hP
          obtain ⟨e0, -⟩ := hf
          change _ = _ at e0
          have hRb := hG.1
          have cc := (Below.cell hRb (p := ⟨la, lo + I, none⟩) hla1).trans hck1
          clear hRb
          simp only [fillAct, List.getD_cons_succ, List.getD_cons_zero, Act.put, List.setIfInBounds_toArray, List.set_cons_succ, List.set_cons_zero, e0] at hK ⊢
          go_wp2
          exact hK _ _ (fracRel_le (Le.refl _)) rfl (hG.keep rfl (Le.refl _))
        · intro Dn xv W hD hdp hR hf hG Q hK hP
          obtain ⟨e0, e1, -⟩ := hf
          change _ = _ at e0 e1
          simp only [fillAct, List.getD_cons_succ, List.getD_cons_zero, Act.put, List.setIfInBounds_toArray, List.set_cons_succ, List.set_cons_zero, e0, e1] at hK ⊢
          go_wp2
          exact hK _ _ (fracRel_le (Le.refl _)) rfl (hG.keep rfl (Le.refl _))
        · intro Dn xv W hD hdp hR hf hG Q hK hP
          obtain ⟨e0, e1, -⟩ := hf
          change _ = _ at e0 e1
          simp only [fillAct, List.getD_cons_succ, List.getD_cons_zero, Act.put, List.setIfInBounds_toArray, List.set_cons_succ, List.set_cons_zero, e0, e1] at hK ⊢
          go_wp2_with (fail)
          go_at_call 6
          refine (hcall1'.out W).mono ?_
          rintro e w' ⟨y1, v1, cc, rfl, y2, y4⟩
          subst y4
          have y3 := y2
          obtain ⟨f1, f2, f3, f4, f5, f6, f7, f8, rfl⟩ := y2.fform
          have y2' := Lib.hid y2
          have y3' := Lib.hid y3
          have y1' := Lib.hid y1
          have hG' := Lib.hid hG
          clear hG y1 y3 y2
          go_wp2
          exact hK _ _ (fracRel_le y1'.out) ⟨_, rfl, y3'.out⟩ (hG'.out.keep rfl y1'.out)
        · intro Dn xv W hD hdp hR hf hG Q hK hP
          obtain ⟨e0, -⟩ := hf
          replace e0 : ∃ v', (xv 27) = .tuple #[v', .int .i64 0] ∧ FracT W v' R := e0
          obtain ⟨vv, qv, hv1⟩ := e0
          have hv2 := hv1
          obtain ⟨f1, f2, f3, f4, f5, f6, f7, f8, rfl⟩ := hv1.fform
          clear hv1
          have hv2' := Lib.hid hv2
          clear hv2
          simp only [fillAct, List.getD_cons_succ, List.getD_cons_zero, Act.put, List.setIfInBounds_toArray, List.set_cons_succ, List.set_cons_zero, qv] at hK ⊢
          have qv9 := qv
          clear qv qv9
          have hG' := Lib.hid hG
          clear hG
          go_wp2
          exact hK _ _ (fracRel_le (Le.refl _)) ⟨_, rfl, hv2'.out⟩ (hG'.out.keep rfl (Le.refl _))
        · intro Dn xv W hD hdp hR hf hG Q hK hP
          obtain ⟨e0, -⟩ := hf
          replace e0 : ∃ v', (xv 28) = .tuple #[v', .int .i64 0] ∧ FracT W v' R := e0
          obtain ⟨vv, qv, hv1⟩ := e0
          have hv2 := hv1
          obtain ⟨f1, f2, f3, f4, f5, f6, f7, f8, rfl⟩ := hv1.fform
          clear hv1
          have hv2' := Lib.hid hv2
          clear hv2
          simp only [fillAct, List.getD_cons_succ, List.getD_cons_zero, Act.put, List.setIfInBounds_toArray, List.set_cons_succ, List.set_cons_zero, qv] at hK ⊢
          have qv9 := qv
          clear qv qv9
          have hG' := Lib.hid hG
          clear hG
          go_wp2
          exact hK _ _ (fracRel_le (Le.refl _)) hv2'.out (hG'.out.take hD)
        · intro Dn xv W hD hdp hR hf hG Q hK hP
          obtain ⟨e0, -⟩ := hf
          replace e0 : ∃ v', (xv 28) = .tuple #[v', .int .i64 0] ∧ FracT W v' R := e0
          obtain ⟨vv, qv, hv1⟩ := e0
          have hv2 := hv1
          obtain ⟨f1, f2, f3, f4, f5, f6, f7, f8, rfl⟩ := hv1.fform
          clear hv1
          have hv2' := Lib.hid hv2
          clear hv2
          simp only [fillAct, List.getD_cons_succ, List.getD_cons_zero, Act.put, List.setIfInBounds_toArray, List.set_cons_succ, List.set_cons_zero, qv] at hK ⊢
          have qv9 := qv
          clear qv qv9
          have hG' := Lib.hid hG
          clear hG
          go_wp2
          exact hK _ _ (fracRel_le (Le.refl _)) rfl (hG'.out.keep rfl (Le.refl _))
        · intro Dn xv W hD hdp hR hf hG Q hK hP
          simp only [fillAct, List.getD_cons_succ, List.getD_cons_zero, Act.put, List.setIfInBounds_toArray, List.set_cons_succ, List.set_cons_zero] at hK ⊢
          have hG' := Lib.hid hG
          clear hG
          go_wp2
          exact hK _ _ (fracRel_le (le_alloc _ _)) trivial (hG'.out.make hD)
        · intro Dn xv W hD hdp hR hf hG Q hK hP
          obtain ⟨e0, e1, -⟩ := hf
          have d29 := hdp 29 (by decide)
          have d31 := hdp 31 (by decide)
          replace e0 : FracT W (xv 29) R := e0
          obtain ⟨kb, qb, hkb, hxb⟩ := hG.ready d31 hD
          obtain ⟨f1, f2, f3, f4, f5, f6, f7, f8, qv⟩ := FracL.fform e0
          have hput := hG.put (v := undef) d31 d29 qb hkb hxb qv
          simp only [fillAct, List.getD_cons_succ, List.getD_cons_zero, Act.put, List.setIfInBounds_toArray, List.set_cons_succ, List.set_cons_zero, qv, qb] at hK ⊢
          obtain ⟨z0, z1, z2, z3⟩ := cells4 hxb
          have y0 := frozen00 hxb 0
          have y1 := frozen00 hxb 1
          have y2 := frozen00 hxb 2
          have y3 := frozen00 hxb 3
          clear qv qb
          clear e0 e1
          have hput' := Lib.hid hput
          have hG' := Lib.hid hG
          have hxb' := Lib.hid hxb
          clear hxb hG hput
          go_wp2
          exact hK undef _ hput'.out.2 trivial hput'.out.1
      · intro Dn xv V1 hD hR hf hG Q' hQ1 _
        have e2 : FracT V1 (xv 29) R := hf 29 (by decide)
        have e1 : xv 30 = .int .i64 0 := hf 30 (by decide)
        obtain ⟨kb1, qb, hkb, g11, g12, g13, g14, g15, g16, g17, g18, qv, kV1⟩ := hG.full (hD 31 (by decide)) (hD 32 (by decide))
        have hleV1 := hG.1
        rw [qv] at e2
        have frV1 := e2
        simp only [List.drop_succ_cons, List.drop_zero]
        rw [show List.range 33 = [0, 1, 2, 3, 4, 5, 6, 7, 8, 9, 10, 11, 12, 13, 14, 15, 16, 17, 18, 19, 20, 21, 22, 23, 24, 25, 26, 27, 28, 29, 30, 31, 32] from rfl]
        simp only [fillAct, List.getD_cons_succ, List.getD_cons_zero, Act.put, List.setIfInBounds_toArray, List.set_cons_succ, List.set_cons_zero, qv, e1, qb]
        clear qv e1 qb hf e2 hG hD hR
        have hleV1' := Lib.hid hleV1
        have kV1' := Lib.hid kV1
        have frV1' := Lib.hid frV1
        clear frV1 kV1 hleV1
        go_wp2
        refine hQ1 _ _ ?_
        clear hQ1
        have hle01 : Le w V1 := Le.trans hle05'.out hleV1'.out
        have hX1 := hX5'.out.le hleV1'.out
        have k51 := box_later hleV1'.out k5'.out
        obtain ⟨J, hJ⟩ : ∃ J, aj % ps.length = J := ⟨_, rfl⟩
        have hJl : J < ps.length := by rw [← hJ]; exact Nat.mod_lt _ hl0
        have tJ : (aj : Int).tmod (ps.length : Int) = (J : Int) := by rw [← hJ]; rfl
        obtain ⟨m, hm0, hm1, hm2, hm3⟩ := hget'.out J hJl
        obtain ⟨H, hH⟩ : ∃ H, ah % (m + 1) = H := ⟨_, rfl⟩
        have hHl : H < m + 1 := by rw [← hH]; exact Nat.mod_lt _ (Nat.succ_pos _)
        have tH : (ah : Int).tmod ((m : Int) + 1) = (H : Int) := by rw [← hH]; rfl
        have hck2 : V1.cell? ⟨la, lo + J, none⟩ = some (.int .i64 (m : Int)) := by rw [← hm0]; exact (hle01.cell (p := ⟨la, lo + J, none⟩) hla).trans (hcl'.out J hJl)
        have hla2 : la < V1.heap.size := Nat.lt_of_lt_of_le hla hle01.size
        obtain ⟨Y, Q, EE, fK, fU, fD, hYb, hQb, hEE0, hEEb, hsS, y, hz2, hyb1, hyb2, hyr⟩ := hole_facts (k := H) hD1 hD2 hUD hm1 hm2 (by omega)
        obtain ⟨S, hS⟩ : ∃ S, farR U D m H = S := ⟨_, rfl⟩
        obtain ⟨c1, c2⟩ := b4'.out J H (by have := hL'.out; omega) (by rw [hm3]; omega)
        rw [hm3, hS] at c1 c2
        rw [hS] at hyr hsS
        have hcall2 := fun (W : World) => pf_Ratio (fun _ => True) y (EE : Int) W (Up.any _) (by omega) (by omega) (by omega) (by omega)
        simp only [hyr] at hcall2
        have u1 : (aj : Int) ≤ 255 := by have := hA3'.out; omega
        have u2 : (ah : Int) ≤ 65535 := by have := hA4'.out; omega
        have u3 : (0 : Int) ≤ (aj : Int) := by omega
        have u4 : (0 : Int) ≤ (ah : Int) := by omega
        have j1 : (J : Int) < (ps.length : Int) := by omega
        have j2 : (0 : Int) ≤ (J : Int) := by omega
        have j3 : ¬ (ps.length : Int) = 0 := by omega
        have j4 : ¬ (m : Int) + 1 = 0 := by omega
        have hle01' := Lib.hid hle01
        have hX1' := Lib.hid hX1
        have k51' := Lib.hid k51
        have hJ' := Lib.hid hJ
        have hm0' := Lib.hid hm0
        have hm3' := Lib.hid hm3
        have hH' := Lib.hid hH
        have hsS' := Lib.hid hsS
        have hyr' := Lib.hid hyr
        have hcall2' := Lib.hid hcall2
        have c1' := Lib.hid c1
        have c2' := Lib.hid c2
        have hS' := Lib.hid hS
        clear hS c2 c1 hcall2 hyr hsS hH hm3 hm0 hJ k51 hX1 hle01
        go_wp2_with (fail)
        refine wp_region_GT (R := fracRel) 33 [some 117, some 118, some 119, some 120, some 121, some 122, some 123, some 124, some 125, some 126, some 127, some 128, some 129, some 130, some 131, some 132, some 133, some 134, some 135, some 136, some 137, some 138, some 139, some 140, some 141, some 142, some 143, some 144, some 116, some 145, some 146, some 20, none, some 21] [[], [], [0, 1], [], [], [], [4, 5], [6], [3, 7], [2, 8], [], [], [], [11, 12], [13], [10, 14], [], [], [16, 17], [15, 18], [9, 19], [], [], [], [22, 23], [24], [21, 25], [20, 26], [27], [28], [28], [], [29, 31], [30]]
          [.eq (.int .i64 (H : Nat)), .eq (.int .i64 (D : Nat)), .eq (.int .i64 (Y : Nat)), .eq (.int .i64 (U : Nat)), .eq (.slice (some ⟨la, lo, none⟩) ps.length c0), .eq (.int .i64 (J : Nat)), .eq (.pointer (some ⟨la, lo + J, none⟩)), .eq (.int .i64 (m : Nat)), .eq (.int .i64 (Q : Nat)), .eq (.int .i64 ((Y : Int) - (Q : Int))), .eq (.int .i64 (U : Nat)), .eq (.slice (some ⟨la, lo, none⟩) ps.length c0), .eq (.int .i64 (J : Nat)), .eq (.pointer (some ⟨la, lo + J, none⟩)), .eq (.int .i64 (m : Nat)), .eq (.int .i64 (Q : Nat)), .eq (.int .i64 (H : Nat)), .eq (.int .i64 (D : Nat)), .eq (.int .i64 (Y : Nat)), .eq (.int .i64 ((Q : Int) - (Y : Int))), .eq (.int .i64 y), .eq (.int .i64 (D : Nat)), .eq (.slice (some ⟨la, lo, none⟩) ps.length c0), .eq (.int .i64 (J : Nat)), .eq (.pointer (some ⟨la, lo + J, none⟩)), .eq (.int .i64 (m : Nat)), .eq (.int .i64 (EE : Nat)), FPred.frT S, FPred.frT S, FPred.frV S, .eq (.int .i64 0), MPredR.any, MPredR.any] (GBox V1 29) (fun _ _ => False) (by kernel_rfl) (by kernel_rfl) (by kernel_rfl) (by kernel_rfl) (by kernel_rfl) (GBox.start V1 29 _ (by decide)) ?_ (fun _ _ _ _ h => h.elim) ?_
        · simp only [List.take_succ_cons, List.take_zero]
          refine stepsG_cons rfl ?_ (stepsG_cons rfl ?_ (stepsG_cons rfl ?_ (stepsG_cons rfl ?_ (stepsG_cons rfl ?_ (stepsG_cons rfl ?_ (stepsG_cons rfl ?_ (stepsG_cons rfl ?_ (stepsG_cons rfl ?_ (stepsG_cons rfl ?_ (stepsG_cons rfl ?_ (stepsG_cons rfl ?_ (stepsG_cons rfl ?_ (stepsG_cons rfl ?_ (stepsG_cons rfl ?_ (stepsG_cons rfl ?_ (stepsG_cons rfl ?_ (stepsG_cons rfl ?_ (stepsG_cons rfl ?_ (stepsG_cons rfl ?_ (stepsG_cons rfl ?_ (stepsG_cons rfl ?_ (stepsG_cons rfl ?_ (stepsG_cons rfl ?_ (stepsG_cons rfl ?_ (stepsG_cons rfl ?_ (stepsG_cons rfl ?_ (stepsG_cons rfl ?_ (stepsG_cons rfl ?_ (stepsG_cons rfl ?_ (stepsG_cons rfl ?_ (stepsG_cons rfl ?_ (stepsG_cons rfl ?_ (stepsG_nil)))))))))))))))))))))))))))))))))
          · intro Dn xv W hD hdp hR hf hG Q hK hP
            simp only [fillAct, List.getD_cons_succ, List.getD_cons_zero, Act.put, List.setIfInBounds_toArray, List.set_cons_succ, List.set_cons_zero] at hK ⊢
            go_wp2
            exact hK _ _ (fracRel_le (Le.refl _)) rfl (hG.keep rfl (Le.refl _))
          · intro Dn xv W hD hdp hR hf hG Q hK hP
            simp only [fillAct, List.getD_cons_succ, List.getD_cons_zero, Act.put, List.setIfInBounds_toArray, List.set_cons_succ, List.set_cons_zero] at hK ⊢
            go_wp2
            exact hK _ _ (fracRel_le (Le.refl _)) rfl (hG.keep rfl (Le.refl _))
          · intro Dn xv W hD hdp hR hf hG Q hK hP
            obtain ⟨e0, e1, -⟩ := hf
            change _ = _ at e0 e1
            simp only [fillAct, List.getD_cons_succ, List.getD_cons_zero, Act.put, List.setIfInBounds_toArray, List.set_cons_succ, List.set_cons_zero, e0, e1] at hK ⊢
            go_wp2
            exact hK _ _ (fracRel_le (Le.refl _)) rfl (hG.keep rfl (Le.refl _))
          · intro Dn xv W hD hdp hR hf hG Q hK hP
            simp only [fillAct, List.getD_cons_succ, List.getD_cons_zero, Act.put, List.setIfInBounds_toArray, List.set_cons_succ, List.set_cons_zero] at hK ⊢
            go_wp2
            exact hK _ _ (fracRel_le (Le.refl _)) rfl (hG.keep rfl (Le.refl _))
          · intro Dn xv W hD hdp hR hf hG Q hK hP
            simp only [fillAct, List.getD_cons_succ, List.getD_cons_zero, Act.put, List.setIfInBounds_toArray, List.set_cons_succ, List.set_cons_zero] at hK ⊢
            go_wp2
            exact hK _ _ (fracRel_le (Le.refl _)) rfl (hG.keep rfl (Le.refl _))
          · intro Dn xv W hD hdp hR hf hG Q hK hP
            simp only [fillAct, List.getD_cons_succ, List.getD_cons_zero, Act.put, List.setIfInBounds_toArray, List.set_cons_succ, List.set_cons_zero] at hK ⊢
            go_wp2
            exact hK _ _ (fracRel_le (Le.refl _)) rfl (hG.keep rfl (Le.refl _))
          · intro Dn xv W hD hdp hR hf hG Q hK hP
            obtain ⟨e0, e1, -⟩ := hf
            change _ = _ at e0 e1
            simp only [fillAct, List.getD_cons_succ, List.getD_cons_zero, Act.put, List.setIfInBounds_toArray, List.set_cons_succ, List.set_cons_zero, e0, e1] at hK ⊢
            go_wp2
            exact hK _ _ (fracRel_le (Le.refl _)) rfl (hG.keep rfl (Le.refl _))
          · intro Dn xv W hD hdp hR hf hG Q hK hP
            obtain ⟨e0, -⟩ := hf
            change _ = _ at e0
            have hRb := hG.1
            have cc := (Below.cell hRb (p := ⟨la, lo + J, none⟩) hla2).trans hck2
            clear hRb
            simp only [fillAct, List.getD_cons_succ, List.getD_cons_zero, Act.put, List.setIfInBounds_toArray, List.set_cons_succ, List.set_cons_zero, e0] at hK ⊢
            go_wp2
            exact hK _ _ (fracRel_le (Le.refl _)) rfl (hG.keep rfl (Le.refl _))
          · intro Dn xv W hD hdp hR hf hG Q hK hP
            obtain ⟨e0, e1, -⟩ := hf
            change _ = _ at e0 e1
            simp only [fillAct, List.getD_cons_succ, List.getD_cons_zero, Act.put, List.setIfInBounds_toArray, List.set_cons_succ, List.set_cons_zero, e0, e1] at hK ⊢
            go_wp2
            exact hK _ _ (fracRel_le (Le.refl _)) rfl (hG.keep rfl (Le.refl _))
          · intro Dn xv W hD hdp hR hf hG Q hK hP
            obtain ⟨e0, e1, -⟩ := hf
            change _ = _ at e0 e1
            simp only [fillAct, List.getD_cons_succ, List.getD_cons_zero, Act.put, List.setIfInBounds_toArray, List.set_cons_succ, List.set_cons_zero, e0, e1] at hK ⊢
            go_wp2
            exact hK _ _ (fracRel_le (Le.refl _)) rfl (hG.keep rfl (Le.refl _))
          · intro Dn xv W hD hdp hR hf hG Q hK hP
            simp only [fillAct, List.getD_cons_succ, List.getD_cons_zero, Act.put, List.setIfInBounds_toArray, List.set_cons_succ, List.set_cons_zero] at hK ⊢
            go_wp2
            exact hK _ _ (fracRel_le (Le.refl _)) rfl (hG.keep rfl (Le.refl _))
          · intro Dn xv W hD hdp hR hf hG Q hK hP
            simp only [fillAct, List.getD_cons_succ, List.getD_cons_zero, Act.put, List.setIfInBounds_toArray, List.set_cons_succ, List.set_cons_zero] at hK ⊢
            go_wp2
            exact hK _ _ (fracRel_le (Le.refl _)) rfl (hG.keep rfl (Le.refl _))
          · intro Dn xv W hD hdp hR hf hG Q hK hP
            simp only [fillAct, List.getD_cons_succ, List.getD_cons_zero, Act.put, List.setIfInBounds_toArray, List.set_cons_succ, List.set_cons_zero] at hK ⊢
            go_wp2
            exact hK _ _ (fracRel_le (Le.refl _)) rfl (hG.keep rfl (Le.refl _))
          · intro Dn xv W hD hdp hR hf hG Q hK hP
            obtain ⟨e0, e1, -⟩ := hf
            change _ = _ at e0 e1
            simp only [fillAct, List.getD_cons_succ, List.getD_cons_zero, Act.put, List.setIfInBounds_toArray, List.set_cons_succ, List.set_cons_zero, e0, e1] at hK ⊢
            go_wp2
            exact hK _ _ (fracRel_le (Le.refl _)) rfl (hG.keep rfl (Le.refl _))
          · intro Dn xv W hD hdp hR hf hG Q hK hP
            obtain ⟨e0, -⟩ := hf
            change _ = _ at e0
            have hRb := hG.1
            have cc := (Below.cell hRb (p := ⟨la, lo + J, none⟩) hla2).trans hck2
            clear hRb
            simp only [fillAct, List.getD_cons_succ, List.getD_cons_zero, Act.put, List.setIfInBounds_toArray, List.set_cons_succ, List.set_cons_zero, e0] at hK ⊢
            go_wp2
            exact hK _ _ (fracRel_le (Le.refl _)) rfl (hG.keep rfl (Le.refl _))
          · intro Dn xv W hD hdp hR hf hG Q hK hP
            obtain ⟨e0, e1, -⟩ := hf
            change _ = _ at e0 e1
            simp only [fillAct, List.getD_cons_succ, List.getD_cons_zero, Act.put, List.setIfInBounds_toArray, List.set_cons_succ, List.set_cons_zero, e0, e1] at hK ⊢
            go_wp2
            exact hK _ _ (fracRel_le (Le.refl _)) rfl (hG.keep rfl (Le.refl _))
          · intro Dn xv W hD hdp hR hf hG Q hK hP
            simp only [fillAct, List.getD_cons_succ, List.getD_cons_zero, Act.put, List.setIfInBounds_toArray, List.set_cons_succ, List.set_cons_zero] at hK ⊢
            go_wp2
            exact hK _ _ (fracRel_le (Le.refl _)) rfl (hG.keep rfl (Le.refl _))
          · intro Dn xv W hD hdp hR hf hG Q hK hP
            simp only [fillAct, List.getD_cons_succ, List.getD_cons_zero, Act.put, List.setIfInBounds_toArray, List.set_cons_succ, List.set_cons_zero] at hK ⊢
            go_wp2
            exact hK _ _ (fracRel_le (Le.refl _)) rfl (hG.keep rfl (Le.refl _))
          · intro Dn xv W hD hdp hR hf hG Q hK hP
            obtain ⟨e0, e1, -⟩ := hf
            change _ = _ at e0 e1
            simp only [fillAct, List.getD_cons_succ, List.getD_cons_zero, Act.put, List.setIfInBounds_toArray, List.set_cons_succ, List.set_cons_zero, e0, e1] at hK ⊢
            go_wp2
            exact hK _ _ (fracRel_le (Le.refl _)) rfl (hG.keep rfl (Le.refl _))
          · intro Dn xv W hD hdp hR hf hG Q hK hP
            obtain ⟨e0, e1, -⟩ := hf
            change _ = _ at e0 e1
            simp only [fillAct, List.getD_cons_succ, List.getD_cons_zero, Act.put, List.setIfInBounds_toArray, List.set_cons_succ, List.set_cons_zero, e0, e1] at hK ⊢
            go_wp2
            exact hK _ _ (fracRel_le (Le.refl _)) rfl (hG.keep rfl (Le.refl _))
          · intro Dn xv W hD hdp hR hf hG Q hK hP
            obtain ⟨e0, e1, -⟩ := hf
            change _ = _ at e0 e1
            simp only [fillAct, List.getD_cons_succ, List.getD_cons_zero, Act.put, List.setIfInBounds_toArray, List.set_cons_succ, List.set_cons_zero, e0, e1] at hK ⊢
            go_wp2
            exact hK _ _ (fracRel_le (Le.refl _)) (by show Value.int _ _ = Value.int _ _; congr 1; omega) (hG.keep rfl (Le.refl _))
          · intro Dn xv W hD hdp hR hf hG Q hK hP
            simp only [fillAct, List.getD_cons_succ, List.getD_cons_zero, Act.put, List.setIfInBounds_toArray, List.set_cons_succ, List.set_cons_zero] at hK ⊢
            go_wp2
            exact hK _ _ (fracRel_le (Le.refl _)) rfl (hG.keep rfl (Le.refl _))
          · intro Dn xv W hD hdp hR hf hG Q hK hP
            simp only [fillAct, List.getD_cons_succ, List.getD_cons_zero, Act.put, List.setIfInBounds_toArray, List.set_cons_succ, List.set_cons_zero] at hK ⊢
            go_wp2
            exact hK _ _ (fracRel_le (Le.refl _)) rfl (hG.keep rfl (Le.refl _))
          · intro Dn xv W hD hdp hR hf hG Q hK hP
            simp only [fillAct, List.getD_cons_succ, List.getD_cons_zero, Act.put, List.setIfInBounds_toArray, List.set_cons_succ, List.set_cons_zero] at hK ⊢
            go_wp2
            exact hK _ _ (fracRel_le (Le.refl _)) rfl (hG.keep rfl (Le.refl _))
          · intro Dn xv W hD hdp hR hf hG Q hK hP
            obtain ⟨e0, e1, -⟩ := hf
            change _ = _ at e0 e1
            simp only [fillAct, List.getD_cons_succ, List.getD_cons_zero, Act.put, List.setIfInBounds_toArray, List.set_cons_succ, List.set_cons_zero, e0, e1] at hK ⊢
            go_wp2
            exact hK _ _ (fracRel_le (Le.refl _)) rfl (hG.keep rfl (Le.refl _))
          · intro Dn xv W hD hdp hR hf hG Q hK hP
            obtain ⟨e0, -⟩ := hf
            change _ = _ at e0
            have hRb := hG.1
            have cc := (Below.cell hRb (p := ⟨la, lo + J, none⟩) hla2).trans hck2
            clear hRb
            simp only [fillAct, List.getD_cons_succ, List.getD_cons_zero, Act.put, List.setIfInBounds_toArray, List.set_cons_succ, List.set_cons_zero, e0] at hK ⊢
            go_wp2
            exact hK _ _ (fracRel_le (Le.refl _)) rfl (hG.keep rfl (Le.refl _))
          · intro Dn xv W hD hdp hR hf hG Q hK hP
            obtain ⟨e0, e1, -⟩ := hf
            change _ = _ at e0 e1
            simp only [fillAct, List.getD_cons_succ, List.getD_cons_zero, Act.put, List.setIfInBounds_toArray, List.set_cons_succ, List.set_cons_zero, e0, e1] at hK ⊢
            go_wp2
            exact hK _ _ (fracRel_le (Le.refl _)) rfl (hG.keep rfl (Le.refl _))
          · intro Dn xv W hD hdp hR hf hG Q hK hP
            obtain ⟨e0, e1, -⟩ := hf
            change _ = _ at e0 e1
            simp only [fillAct, List.getD_cons_succ, List.getD_cons_zero, Act.put, List.setIfInBounds_toArray, List.set_cons_succ, List.set_cons_zero, e0, e1] at hK ⊢
            go_wp2_with (fail)
            go_at_call 6
            refine (hcall2'.out W).mono ?_
            rintro e w' ⟨y1, v1, cc, rfl, y2, y4⟩
            subst y4
            have y3 := y2
            obtain ⟨f1, f2, f3, f4, f5, f6, f7, f8, rfl⟩ := y2.fform
            have y2' := Lib.hid y2
            have y3' := Lib.hid y3
            have y1' := Lib.hid y1
            have hG' := Lib.hid hG
            clear hG y1 y3 y2
            go_wp2
            exact hK _ _ (fracRel_le y1'.out) ⟨_, rfl, y3'.out⟩ (hG'.out.keep rfl y1'.out)
          · intro Dn xv W hD hdp hR hf hG Q hK hP
            obtain ⟨e0, -⟩ := hf
            replace e0 : ∃ v', (xv 27) = .tuple #[v', .int .i64 0] ∧ FracT W v' S := e0
            obtain ⟨vv, qv, hv1⟩ := e0
            have hv2 := hv1
            obtain ⟨f1, f2, f3, f4, f5, f6, f7, f8, rfl⟩ := hv1.fform
            clear hv1
            have hv2' := Lib.hid hv2
            clear hv2
            simp only [fillAct, List.getD_cons_succ, List.getD_cons_zero, Act.put, List.setIfInBounds_toArray, List.set_cons_succ, List.set_cons_zero, qv] at hK ⊢
            have qv9 := qv
            clear qv qv9
            have hG' := Lib.hid hG
            clear hG
            go_wp2
            exact hK _ _ (fracRel_le (Le.refl _)) ⟨_, rfl, hv2'.out⟩ (hG'.out.keep rfl (Le.refl _))
          · intro Dn xv W hD hdp hR hf hG Q hK hP
            obtain ⟨e0, -⟩ := hf
            replace e0 : ∃ v', (xv 28) = .tuple #[v', .int .i64 0] ∧ FracT W v' S := e0
            obtain ⟨vv, qv, hv1⟩ := e0
            have hv2 := hv1
            obtain ⟨f1, f2, f3, f4, f5, f6, f7, f8, rfl⟩ := hv1.fform
            clear hv1
            have hv2' := Lib.hid hv2
            clear hv2
            simp only [fillAct, List.getD_cons_succ, List.getD_cons_zero, Act.put, List.setIfInBounds_toArray, List.set_cons_succ, List.set_cons_zero, qv] at hK ⊢
            have qv9 := qv
            clear qv qv9
            have hG' := Lib.hid hG
            clear hG
            go_wp2
            exact hK _ _ (fracRel_le (Le.refl _)) hv2'.out (hG'.out.take hD)
          · intro Dn xv W hD hdp hR hf hG Q hK hP
            obtain ⟨e0, -⟩ := hf
            replace e0 : ∃ v', (xv 28) = .tuple #[v', .int .i64 0] ∧ FracT W v' S := e0
            obtain ⟨vv, qv, hv1⟩ := e0
            have hv2 := hv1
            obtain ⟨f1, f2, f3, f4, f5, f6, f7, f8, rfl⟩ := hv1.fform
            clear hv1
            have hv2' := Lib.hid hv2
            clear hv2
            simp only [fillAct, List.getD_cons_succ, List.getD_cons_zero, Act.put, List.setIfInBounds_toArray, List.set_cons_succ, List.set_cons_zero, qv] at hK ⊢
            have qv9 := qv
            clear qv qv9
            have hG' := Lib.hid hG
            clear hG
            go_wp2
            exact hK _ _ (fracRel_le (Le.refl _)) rfl (hG'.out.keep rfl (Le.refl _))
          · intro Dn xv W hD hdp hR hf hG Q hK hP
            simp only [fillAct, List.getD_cons_succ, List.getD_cons_zero, Act.put, List.setIfInBounds_toArray, List.set_cons_succ, List.set_cons_zero] at hK ⊢
            have hG' := Lib.hid hG
            clear hG
            go_wp2
            exact hK _ _ (fracRel_le (le_alloc _ _)) trivial (hG'.out.make hD)
          · intro Dn xv W hD hdp hR hf hG Q hK hP
            obtain ⟨e0, e1, -⟩ := hf
            have d29 := hdp 29 (by decide)
            have d31 := hdp 31 (by decide)
            replace e0 : FracT W (xv 29) S := e0
            obtain ⟨kb, qb, hkb, hxb⟩ := hG.ready d31 hD
            obtain ⟨f1, f2, f3, f4, f5, f6, f7, f8, qv⟩ := FracL.fform e0
            have hput := hG.put (v := undef) d31 d29 qb hkb hxb qv
            simp only [fillAct, List.getD_cons_succ, List.getD_cons_zero, Act.put, List.setIfInBounds_toArray, List.set_cons_succ, List.set_cons_zero, qv, qb] at hK ⊢
            obtain ⟨z0, z1, z2, z3⟩ := cells4 hxb
            have y0 := frozen00 hxb 0
            have y1 := frozen00 hxb 1
            have y2 := frozen00 hxb 2
            have y3 := frozen00 hxb 3
            clear qv qb
            clear e0 e1
            have hput' := Lib.hid hput
            have hG' := Lib.hid hG
            have hxb' := Lib.hid hxb
            clear hxb hG hput
            go_wp2
            exact hK undef _ hput'.out.2 trivial hput'.out.1
        · intro Dn xv V2 hD hR hf hG Q' hQ1 _
          have e2 : FracT V2 (xv 29) S := hf 29 (by decide)
          have e1 : xv 30 = .int .i64 0 := hf 30 (by decide)
          obtain ⟨kb2, qb, hkb, g21, g22, g23, g24, g25, g26, g27, g28, qv, kV2⟩ := hG.full (hD 31 (by decide)) (hD 32 (by decide))
          have hleV2 := hG.1
          rw [qv] at e2
          have frV2 := e2
          simp only [List.drop_succ_cons, List.drop_zero]
          rw [show List.range 33 = [0, 1, 2, 3, 4, 5, 6, 7, 8, 9, 10, 11, 12, 13, 14, 15, 16, 17, 18, 19, 20, 21, 22, 23, 24, 25, 26, 27, 28, 29, 30, 31, 32] from rfl]
          simp only [fillAct, List.getD_cons_succ, List.getD_cons_zero, Act.put, List.setIfInBounds_toArray, List.set_cons_succ, List.set_cons_zero, qv, e1, qb]
          clear qv e1 qb hf e2 hG hD hR
          have hleV2' := Lib.hid hleV2
          have kV2' := Lib.hid kV2
          have frV2' := Lib.hid frV2
          clear frV2 kV2 hleV2
          go_wp2
          refine hQ1 _ _ ?_
          clear hQ1
          have hle02 : Le w V2 := Le.trans hle01'.out hleV2'.out
          have hX2 := hX1'.out.le hleV2'.out
          have k52 := box_later hleV2'.out k51'.out
          have kI2 := box_later hleV2'.out kV1'.out
          have hI2 := frV1'.out.le hleV2'.out
          obtain ⟨z0, z1, z2, z3⟩ := cells4 k52
          obtain ⟨y0, y1, y2, y3⟩ := cells4 kV2'.out
          have hcmp := pf_Compare (fracV R) (fracV S) _ _ V2 hX2.isA frV2'.out.isA
          rw [cmpV_some (fracV_rat hsR'.out) (fracV_rat hsS'.out), fracV_ok hsR'.out, fracV_ok hsS'.out] at hcmp
          obtain ⟨cv, hcv⟩ : ∃ cv, rsgn (R - S) = cv := ⟨_, rfl⟩
          have hcl2 : cv < 0 ↔ R < S := by rw [← hcv]; exact rsgn_lt
          have hcz : cv = 0 ↔ R - S = 0 := by rw [← hcv]; exact rsgn_zero
          rw [hcv] at hcmp
          simp only [Bool.and_self, show okE true = 0 from rfl] at hcmp
          have hle02' := Lib.hid hle02
          have hX2' := Lib.hid hX2
          have k52' := Lib.hid k52
          have kI2' := Lib.hid kI2
          have hI2' := Lib.hid hI2
          have hcmp' := Lib.hid hcmp
          have hcv' := Lib.hid hcv
          have hcl2' := Lib.hid hcl2
          have hcz' := Lib.hid hcz
          clear hcz hcl2 hcv hcmp hI2 kI2 k52 hX2 hle02
          go_wp2_with (fail)
          go_at_call 7
          refine hcmp'.out.mono ?_
          rintro e V3 ⟨rfl, hle3⟩
          have hle03 : Le w V3 := Le.trans hle02'.out hle3
          have k53 := box_later hle3 k52'.out
          have kI3 := box_later hle3 kI2'.out
          clear z0 z1 z2 z3 y0 y1 y2 y3
          obtain ⟨z0, z1, z2, z3⟩ := cells4 k53
          obtain ⟨y0, y1, y2, y3⟩ := cells4 kI3
          have hsf := pf_n_SameFrac _ _ (fracV R) (fracV R) _ _ V3 (hI2'.out.le hle3).isA (hX2'.out.le hle3).isA
          rw [sameF_self] at hsf
          have hle3' := Lib.hid hle3
          have hle03' := Lib.hid hle03
          have k53' := Lib.hid k53
          have kI3' := Lib.hid kI3
          have hsf' := Lib.hid hsf
          clear hsf kI3 k53 hle03 hle3
          by_cases hlt : R < S
          · have hc0 : cv < 0 := hcl2'.out.2 hlt
            have hc1 : cv ≤ 0 := by omega
            go_wp2_with (fail)
            go_at_call 8
            refine hsf'.out.mono ?_
            rintro e V4 ⟨rfl, hle4⟩
            have hle04 : Le w V4 := Le.trans hle03'.out hle4
            have hle4' := Lib.hid hle4
            have hle04' := Lib.hid hle04
            clear hle04 hle4
            go_wp2
            go_ret
            exact ⟨rfl, hle04'.out⟩
          · have hRS : R = S := Rat.le_antisymm c1'.out (Rat.not_lt.1 hlt)
            have hc2 : cv = 0 := hcz'.out.2 (by rw [hRS]; exact Rat.sub_self)
            subst hc2
            rcases c2'.out (by rw [hRS]; exact Rat.le_refl) with hij | ⟨hij, hkh⟩
            · have hij1 : (I : Int) < (J : Int) := by omega
              go_wp2_with (fail)
              go_at_call 8
              refine hsf'.out.mono ?_
              rintro e V4 ⟨rfl, hle4⟩
              have hle04 : Le w V4 := Le.trans hle03'.out hle4
              have hle4' := Lib.hid hle4
              have hle04' := Lib.hid hle04
              clear hle04 hle4
              go_wp2
              go_ret
              exact ⟨rfl, hle04'.out⟩
            · subst hij
              have hkh1 : (K : Int) ≤ (H : Int) := by omega
              go_wp2_with (fail)
              go_at_call 8
              refine hsf'.out.mono ?_
              rintro e V4 ⟨rfl, hle4⟩
              have hle04 : Le w V4 := Le.trans hle03'.out hle4
              have hle4' := Lib.hid hle4
              have hle04' := Lib.hid hle04
              clear hle04 hle4
              go_wp2
              go_ret
              exact ⟨rfl, hle04'.out⟩
    · have hV : idxV ps num den = (0, 0, .error (idxE ps num den)) := by unfold idxV; rw [if_neg hE]
      rw [hV] at hidx
      obtain ⟨c, hc⟩ : ∃ c, idxE ps num den = c := ⟨_, rfl⟩
      rw [hc] at hidx hE
      simp only at hidx
      have hle1' := Lib.hid hle1
      have hidx' := Lib.hid hidx
      have hV' := Lib.hid hV
      have hc' := Lib.hid hc
      clear hc hV hidx hle1
      go_wp2_with (fail)
      go_at_call 5
      refine hidx'.out.mono ?_
      rintro e W2 ⟨hb2', vx, rfl, hzz, -⟩
      have hzz2 : vx = .agg #[.bool false, .slice none 0 0, .bool false, .slice none 0 0] := hzz
      clear hzz
      subst hzz2
      obtain ⟨W5, hW5, hle5, k5⟩ : ∃ W5, W2.alloc (.cells #[.bool false, .slice none 0 0, .bool false, .slice none 0 0] 29) = W5 ∧ Le W2 W5 ∧ W5.heap[W2.heap.size]? = some (.cells #[.bool false, .slice none 0 0, .bool false, .slice none 0 0] 29) := ⟨_, rfl, le_alloc _ _, alc_at _ _⟩
      have hle05 : Le w W5 := Le.trans hle1'.out (Le.trans hb2' hle5)
      obtain ⟨z0, z1, z2, z3⟩ := cells4 k5
      have y0 := frozen00 k5 0
      have y1 := frozen00 k5 1
      have y2 := frozen00 k5 2
      have y3 := frozen00 k5 3
      obtain ⟨W6, hW6, hle06, k6⟩ : ∃ W6, ((((W5.setCell ⟨W2.heap.size, 0, none⟩ (.bool false)).setCell ⟨W2.heap.size, 1, none⟩ (.slice none 0 0)).setCell ⟨W2.heap.size, 2, none⟩ (.bool false)).setCell ⟨W2.heap.size, 3, none⟩ (.slice none 0 0)) = W6 ∧ Le w W6 ∧ W6.heap[W2.heap.size]? = some (.cells #[.bool false, .slice none 0 0, .bool false, .slice none 0 0] 29) := ⟨_, rfl, le_set4 hle05 (Le.trans hle1'.out hb2').size, heap_set4 k5⟩
      obtain ⟨x0, x1, x2, x3⟩ := cells4 k6
      have hb2'' := Lib.hid hb2'
      have hle5' := Lib.hid hle5
      have k5' := Lib.hid k5
      have hle05' := Lib.hid hle05
      have hle06' := Lib.hid hle06
      have k6' := Lib.hid k6
      clear k6 hle06 hle05 k5 hle5 hb2'
      go_wp2
      go_ret
      exact ⟨rfl, hle06'.out⟩
end Go.Proofs.Ytbikpadjmmgpcaa
