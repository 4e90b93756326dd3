/- A drawn region `x, e := f(..)` with x an api.Turn in a box: the box as an invariant (operation al makes it, st fills it with what e0 took out). -/
import Derived.Test.YtabfaobakmjiaaaGreatPk35
namespace Go.Proofs.YtabfaobakmjiaaaGreat
set_option maxRecDepth 100000
open Go.RowKit Go.Shelf
set_option linter.unusedVariables false
def resRel : WRel := ⟨fun a b => a.heap.size ≤ b.heap.size ∧ ∀ v c res, IsResT a v c res → IsResT b v c res, fun w => ⟨Nat.le_refl _, fun _ _ _ h => h⟩, fun h k => ⟨Nat.le_trans h.1 k.1, fun v c r x => k.2 v c r (h.2 v c r x)⟩, fun w => ⟨Nat.le_refl _, fun _ _ _ h => h.le Le.drew⟩⟩
theorem qAU {a b : World} (h : Le a b) : resRel.r a b := ⟨h.size, fun _ _ _ x => x.le h⟩
def codeG : Except Int G2 → Int
 | .ok _ => 0
 | .error z => z
theorem IsResT.codeG {w : World} {v : Value} {c : Int} {res : Except Int G2} (h : IsResT w v c res) : c = codeG res := by
 cases res with
 | ok g => exact h.2
 | error z => exact h.2
def RPred.pair (res : Except Int G2) : MPredR resRel := ⟨fun v w => ∃ v', v = .tuple #[v', .int .i64 (codeG res)] ∧ IsResT w v' (codeG res) res, fun _ _ _ hb ⟨v', e, h⟩ => ⟨v', e, hb.2 _ _ _ h⟩⟩
def RPred.val (res : Except Int G2) : MPredR resRel := ⟨fun v w => IsResT w v (codeG res) res, fun _ _ _ hb h => hb.2 _ _ _ h⟩
def GBox8 (e0 al st : Nat) (V1 : World) (t : TypeId) : JRel := fun D x W => Le V1 W ∧ (D st = true → D e0 = true ∧ D al = true) ∧ (D al = true → ∃ k, x al = .pointer (some ⟨k, 0, none⟩) ∧ V1.heap.size ≤ k ∧
 ((D st = false ∧ W.heap[k]? = some (.cells qB4 t)) ∨ (D st = true ∧ ∃ fs1 fA1 fn1 fc1 ft1 fB1 fm1 fd1 fs2 fA2 fn2 fc2 ft2 fB2 fm2 fd2, x e0 = .agg #[.bool fs1, .slice fA1 fn1 fc1, .bool ft1, .slice fB1 fm1 fd1, .bool fs2, .slice fA2 fn2 fc2, .bool ft2, .slice fB2 fm2 fd2] ∧ W.heap[k]? = some (.cells #[.bool fs1, .slice fA1 fn1 fc1, .bool ft1, .slice fB1 fm1 fd1, .bool fs2, .slice fA2 fn2 fc2, .bool ft2, .slice fB2 fm2 fd2] t))))
section
variable {e0 al st : Nat} {V1 : World} {t : TypeId} {D : Nat → Bool} {x : Nat → Value} {W W' : World} {v : Value}
theorem GBox8.keep {i : Nat} (h : GBox8 e0 al st V1 t D x W) (h1 : (i == al || i == st || i == e0) = false) (hle : Le W W') : GBox8 e0 al st V1 t (updB D i) (updV x i v) W' := by
 simp only [Bool.or_eq_false_iff, beq_eq_false_iff_ne] at h1;obtain ⟨⟨n1, n2⟩, n3⟩ := h1;obtain ⟨a, b, c⟩ := h;have d31 : updB D i al = D al := by unfold updB; rw [if_neg (Ne.symm n1)]
 have d32 : updB D i st = D st := by unfold updB; rw [if_neg (Ne.symm n2)]
 have d29 : updB D i e0 = D e0 := by unfold updB; rw [if_neg (Ne.symm n3)]
 have x31 : updV x i v al = x al := by unfold updV; rw [if_neg (Ne.symm n1)]
 have x29 : updV x i v e0 = x e0 := by unfold updV; rw [if_neg (Ne.symm n3)]
 unfold GBox8;rw [d31, d32, d29, x31, x29];refine ⟨a.trans hle, b, fun h => ?_⟩;obtain ⟨k, c1, c2, ⟨c3, c4⟩ | ⟨c3, fs1, fA1, fn1, fc1, ft1, fB1, fm1, fd1, fs2, fA2, fn2, fc2, ft2, fB2, fm2, fd2, c4, c5⟩⟩ := c h
 ·exact ⟨k, c1, c2, .inl ⟨c3, bxl hle c4⟩⟩
 ·exact ⟨k, c1, c2, .inr ⟨c3, fs1, fA1, fn1, fc1, ft1, fB1, fm1, fd1, fs2, fA2, fn2, fc2, ft2, fB2, fm2, fd2, c4, bxl hle c5⟩⟩
theorem GBox8.take (h : GBox8 e0 al st V1 t D x W) (hD : D e0 = false) (n : (al == e0 || st == e0) = false) : GBox8 e0 al st V1 t (updB D e0) (updV x e0 v) W := by
 simp only [Bool.or_eq_false_iff, beq_eq_false_iff_ne] at n;obtain ⟨a, b, c⟩ := h
 have hn : D st = false := by
  cases e : D st with
  | false => rfl
  | true => have := (b e).1; rw [hD] at this; cases this
 have d31 : updB D e0 al = D al := by unfold updB; rw [if_neg n.1]
 have d32 : updB D e0 st = D st := by unfold updB; rw [if_neg n.2]
 have x31 : updV x e0 v al = x al := by unfold updV; rw [if_neg n.1]
 unfold GBox8;rw [d31, d32, x31];refine ⟨a, fun h => (by rw [hn] at h; cases h), fun h => ?_⟩;obtain ⟨k, c1, c2, ⟨c3, c4⟩ | ⟨c3, -⟩⟩ := c h
 ·exact ⟨k, c1, c2, .inl ⟨c3, c4⟩⟩
 ·rw [hn] at c3; cases c3
theorem GBox8.make (h : GBox8 e0 al st V1 t D x W) (hD : D al = false) (n : (st == al) = false) :
  GBox8 e0 al st V1 t (updB D al) (updV x al (.pointer (some ⟨W.heap.size, 0, none⟩))) (W.alloc (.cells qB4 t)) := by
 simp only [beq_eq_false_iff_ne] at n;obtain ⟨a, b, c⟩ := h
 have hn : D st = false := by
  cases e : D st with
  | false => rfl
  | true => have := (b e).2; rw [hD] at this; cases this
 have d32 : updB D al st = D st := by unfold updB; rw [if_neg n]
 refine ⟨a.trans (qAA _ _), fun h => (by rw [d32, hn] at h; cases h), fun _ => ⟨W.heap.size, by unfold updV; rw [if_pos rfl], a.size, .inl ⟨by rw [d32]; exact hn, qD4 _ _⟩⟩⟩
theorem GBox8.ready (h : GBox8 e0 al st V1 t D x W) (h1 : D al = true) (h2 : D st = false) : ∃ k, x al = .pointer (some ⟨k, 0, none⟩) ∧ V1.heap.size ≤ k ∧ W.heap[k]? = some (.cells qB4 t) := by
 obtain ⟨k, c1, c2, ⟨c3, c4⟩ | ⟨c3, -⟩⟩ := h.2.2 h1
 ·exact ⟨k, c1, c2, c4⟩
 ·rw [h2] at c3; cases c3
theorem GBox8.put {k : Nat} {fs1 ft1 fs2 ft2 : Bool} {fA1 fB1 fA2 fB2 : Option Addr} {fn1 fc1 fm1 fd1 fn2 fc2 fm2 fd2 : Nat} (h : GBox8 e0 al st V1 t D x W) (h1 : D al = true) (h3 : D e0 = true) (hk : x al = .pointer (some ⟨k, 0, none⟩)) (hV : V1.heap.size ≤ k)
  (hx : W.heap[k]? = some (.cells qB4 t)) (hf : x e0 = .agg #[.bool fs1, .slice fA1 fn1 fc1, .bool ft1, .slice fB1 fm1 fd1, .bool fs2, .slice fA2 fn2 fc2, .bool ft2, .slice fB2 fm2 fd2]) (n : (al == st || e0 == st) = false) :
  GBox8 e0 al st V1 t (updB D st) (updV x st v) ((((((((W.setCell ⟨k, 0, none⟩ (.bool fs1)).setCell ⟨k, 1, none⟩ (.slice fA1 fn1 fc1)).setCell ⟨k, 2, none⟩ (.bool ft1)).setCell ⟨k, 3, none⟩ (.slice fB1 fm1 fd1)).setCell ⟨k, 4, none⟩ (.bool fs2)).setCell ⟨k, 5, none⟩ (.slice fA2 fn2 fc2)).setCell ⟨k, 6, none⟩ (.bool ft2)).setCell ⟨k, 7, none⟩ (.slice fB2 fm2 fd2)) ∧ resRel.r W ((((((((W.setCell ⟨k, 0, none⟩ (.bool fs1)).setCell ⟨k, 1, none⟩ (.slice fA1 fn1 fc1)).setCell ⟨k, 2, none⟩ (.bool ft1)).setCell ⟨k, 3, none⟩ (.slice fB1 fm1 fd1)).setCell ⟨k, 4, none⟩ (.bool fs2)).setCell ⟨k, 5, none⟩ (.slice fA2 fn2 fc2)).setCell ⟨k, 6, none⟩ (.bool ft2)).setCell ⟨k, 7, none⟩ (.slice fB2 fm2 fd2)) := by
 simp only [Bool.or_eq_false_iff, beq_eq_false_iff_ne] at n;have ht := qAM W k (.bool fs1) (.slice fA1 fn1 fc1) (.bool ft1) (.slice fB1 fm1 fd1) (.bool fs2) (.slice fA2 fn2 fc2) (.bool ft2) (.slice fB2 fm2 fd2);have d31 : updB D st al = D al := by unfold updB; rw [if_neg n.1]
 have d29 : updB D st e0 = D e0 := by unfold updB; rw [if_neg n.2]
 have dst' : updB D st st = true := by unfold updB; rw [if_pos rfl]
 have x31 : updV x st v al = x al := by unfold updV; rw [if_neg n.1]
 have x29 : updV x st v e0 = x e0 := by unfold updV; rw [if_neg n.2]
 refine ⟨⟨qAV h.1 hV _ _ _ _ _ _ _ _, fun _ => ⟨by rw [d29]; exact h3, by rw [d31]; exact h1⟩, fun _ => ⟨k, by rw [x31]; exact hk, hV, .inr ⟨dst', fs1, fA1, fn1, fc1, ft1, fB1, fm1, fd1, fs2, fA2, fn2, fc2, ft2, fB2, fm2, fd2, by rw [x29]; exact hf, qAL hx _ _ _ _ _ _ _ _⟩⟩⟩, Nat.le_of_eq ht.1.symm, fun v c r hr => hr.touch (qAa hx) ht⟩
theorem GBox8.full (h : GBox8 e0 al st V1 t D x W) (h1 : D al = true) (h2 : D st = true) :
  ∃ k, x al = .pointer (some ⟨k, 0, none⟩) ∧ V1.heap.size ≤ k ∧ ∃ fs1 fA1 fn1 fc1 ft1 fB1 fm1 fd1 fs2 fA2 fn2 fc2 ft2 fB2 fm2 fd2, x e0 = .agg #[.bool fs1, .slice fA1 fn1 fc1, .bool ft1, .slice fB1 fm1 fd1, .bool fs2, .slice fA2 fn2 fc2, .bool ft2, .slice fB2 fm2 fd2] ∧ W.heap[k]? = some (.cells #[.bool fs1, .slice fA1 fn1 fc1, .bool ft1, .slice fB1 fm1 fd1, .bool fs2, .slice fA2 fn2 fc2, .bool ft2, .slice fB2 fm2 fd2] t) := by
 obtain ⟨k, c1, c2, ⟨c3, -⟩ | ⟨c3, f⟩⟩ := h.2.2 h1
 ·rw [h2] at c3; cases c3
 ·exact ⟨k, c1, c2, f⟩
end
theorem GBox8.start (e0 al st : Nat) (V1 : World) (t : TypeId) (n : Nat) (hn : (decide (al < n) && decide (st < n)) = true) : ∀ D x, (∀ j, j < n → D j = false) → GBox8 e0 al st V1 t D x { V1 with drawn := V1.drawn + 1 } := fun D x hD => by
 simp only [Bool.and_eq_true, decide_eq_true_eq] at hn;exact ⟨Le.drew, fun h => (by rw [hD st hn.2] at h; cases h), fun h => (by rw [hD al hn.1] at h; cases h)⟩
def GFill (e0 mv cl ld st : Nat) (V1 : World) (X : Nat) (old : Array Value) (t : TypeId) : JRel := fun D x W => Le V1 W ∧ ((D st = true → D e0 = true) ∧ (D e0 = true → D mv = true) ∧ (D mv = true → D cl = true) ∧ (D cl = true → D ld = true)) ∧
 ((D st = false ∧ W.heap[X]? = some (.cells old t)) ∨ (D st = true ∧ ∃ fs1 fA1 fn1 fc1 ft1 fB1 fm1 fd1 fs2 fA2 fn2 fc2 ft2 fB2 fm2 fd2, x e0 = .agg #[.bool fs1, .slice fA1 fn1 fc1, .bool ft1, .slice fB1 fm1 fd1, .bool fs2, .slice fA2 fn2 fc2, .bool ft2, .slice fB2 fm2 fd2] ∧ W.heap[X]? = some (.cells #[.bool fs1, .slice fA1 fn1 fc1, .bool ft1, .slice fB1 fm1 fd1, .bool fs2, .slice fA2 fn2 fc2, .bool ft2, .slice fB2 fm2 fd2] t)))
section
variable {e0 mv cl ld st : Nat} {V1 : World} {X : Nat} {old : Array Value} {t : TypeId} {D : Nat → Bool} {x : Nat → Value} {W W' : World} {v : Value}
theorem GFill.keep {i : Nat} (h : GFill e0 mv cl ld st V1 X old t D x W) (h1 : (i == st || i == e0) = false) (g1 : i = mv → D cl = true) (g2 : i = cl → D ld = true) (hle : Le W W') : GFill e0 mv cl ld st V1 X old t (updB D i) (updV x i v) W' := by
 simp only [Bool.or_eq_false_iff, beq_eq_false_iff_ne] at h1;obtain ⟨n2, n3⟩ := h1;obtain ⟨a, b, c⟩ := h;have d32 : updB D i st = D st := by unfold updB; rw [if_neg (Ne.symm n2)]
 have d29 : updB D i e0 = D e0 := by unfold updB; rw [if_neg (Ne.symm n3)]
 have x29 : updV x i v e0 = x e0 := by unfold updV; rw [if_neg (Ne.symm n3)]
 unfold GFill;rw [d32, d29, x29];have up : ∀ q, D q = true → updB D i q = true := fun q h => by unfold updB; split <;> first | rfl | exact h
 have dn : ∀ q, q ≠ i → updB D i q = true → D q = true := fun q hq h => by unfold updB at h; rwa [if_neg hq] at h
 refine ⟨a.trans hle, ⟨b.1, fun h => up _ (b.2.1 h), fun h => ?_, fun h => ?_⟩, ?_⟩
 ·by_cases e : mv = i
  ·exact up _ (g1 e.symm)
  ·exact up _ (b.2.2.1 (dn _ e h))
 ·by_cases e : cl = i
  ·exact up _ (g2 e.symm)
  ·exact up _ (b.2.2.2 (dn _ e h))
 obtain ⟨c3, c4⟩ | ⟨c3, fs1, fA1, fn1, fc1, ft1, fB1, fm1, fd1, fs2, fA2, fn2, fc2, ft2, fB2, fm2, fd2, c4, c5⟩ := c
 ·exact .inl ⟨c3, bxl hle c4⟩
 ·exact .inr ⟨c3, fs1, fA1, fn1, fc1, ft1, fB1, fm1, fd1, fs2, fA2, fn2, fc2, ft2, fB2, fm2, fd2, c4, bxl hle c5⟩
theorem GFill.take (h : GFill e0 mv cl ld st V1 X old t D x W) (hD : D e0 = false) (hmv : D mv = true) (n : (st == e0) = false) : GFill e0 mv cl ld st V1 X old t (updB D e0) (updV x e0 v) W := by
 simp only [beq_eq_false_iff_ne] at n;obtain ⟨a, b, c⟩ := h
 have hn : D st = false := by
  cases e : D st with
  | false => rfl
  | true => have := b.1 e; rw [hD] at this; cases this
 have d32 : updB D e0 st = D st := by unfold updB; rw [if_neg n]
 unfold GFill;rw [d32];have up : ∀ q, D q = true → updB D e0 q = true := fun q h => by unfold updB; split <;> first | rfl | exact h
 refine ⟨a, ⟨fun h => (by rw [hn] at h; cases h), fun _ => up _ hmv, fun _ => up _ (b.2.2.1 hmv), fun _ => up _ (b.2.2.2 (b.2.2.1 hmv))⟩, ?_⟩
 obtain ⟨c3, c4⟩ | ⟨c3, -⟩ := c
 ·exact .inl ⟨c3, c4⟩
 ·rw [hn] at c3; cases c3
theorem GFill.unset (h : GFill e0 mv cl ld st V1 X old t D x W) (hD : D ld = false) : D st = false := by
 cases e : D st with
 | false => rfl
 | true => have := h.2.1.2.2.2 (h.2.1.2.2.1 (h.2.1.2.1 (h.2.1.1 e))); rw [hD] at this; cases this
theorem GFill.ready (h : GFill e0 mv cl ld st V1 X old t D x W) (h2 : D st = false) : W.heap[X]? = some (.cells old t) := by
 obtain ⟨c3, c4⟩ | ⟨c3, -⟩ := h.2.2
 ·exact c4
 ·rw [h2] at c3; cases c3
theorem GFill.put {fs1 ft1 fs2 ft2 : Bool} {fA1 fB1 fA2 fB2 : Option Addr} {fn1 fc1 fm1 fd1 fn2 fc2 fm2 fd2 : Nat} {os1 ot1 os2 ot2 : Bool} {oA1 oB1 oA2 oB2 : Option Addr} {on1 oc1 om1 od1 on2 oc2 om2 od2 : Nat} (h : GFill e0 mv cl ld st V1 X #[.bool os1, .slice oA1 on1 oc1, .bool ot1, .slice oB1 om1 od1, .bool os2, .slice oA2 on2 oc2, .bool ot2, .slice oB2 om2 od2] t D x W) (h3 : D e0 = true) (h2 : D st = false) (hV : V1.heap.size ≤ X) (hf : x e0 = .agg #[.bool fs1, .slice fA1 fn1 fc1, .bool ft1, .slice fB1 fm1 fd1, .bool fs2, .slice fA2 fn2 fc2, .bool ft2, .slice fB2 fm2 fd2]) (n : (e0 == st) = false) :
  GFill e0 mv cl ld st V1 X #[.bool os1, .slice oA1 on1 oc1, .bool ot1, .slice oB1 om1 od1, .bool os2, .slice oA2 on2 oc2, .bool ot2, .slice oB2 om2 od2] t (updB D st) (updV x st v) ((((((((W.setCell ⟨X, 0, none⟩ (.bool fs1)).setCell ⟨X, 1, none⟩ (.slice fA1 fn1 fc1)).setCell ⟨X, 2, none⟩ (.bool ft1)).setCell ⟨X, 3, none⟩ (.slice fB1 fm1 fd1)).setCell ⟨X, 4, none⟩ (.bool fs2)).setCell ⟨X, 5, none⟩ (.slice fA2 fn2 fc2)).setCell ⟨X, 6, none⟩ (.bool ft2)).setCell ⟨X, 7, none⟩ (.slice fB2 fm2 fd2)) ∧ resRel.r W ((((((((W.setCell ⟨X, 0, none⟩ (.bool fs1)).setCell ⟨X, 1, none⟩ (.slice fA1 fn1 fc1)).setCell ⟨X, 2, none⟩ (.bool ft1)).setCell ⟨X, 3, none⟩ (.slice fB1 fm1 fd1)).setCell ⟨X, 4, none⟩ (.bool fs2)).setCell ⟨X, 5, none⟩ (.slice fA2 fn2 fc2)).setCell ⟨X, 6, none⟩ (.bool ft2)).setCell ⟨X, 7, none⟩ (.slice fB2 fm2 fd2)) := by
 simp only [beq_eq_false_iff_ne] at n;have up : ∀ q, D q = true → updB D st q = true := fun q h => by unfold updB; split <;> first | rfl | exact h
 have b := h.2.1;have hx := h.ready h2;have ht := qAM W X (.bool fs1) (.slice fA1 fn1 fc1) (.bool ft1) (.slice fB1 fm1 fd1) (.bool fs2) (.slice fA2 fn2 fc2) (.bool ft2) (.slice fB2 fm2 fd2);have d29 : updB D st e0 = D e0 := by unfold updB; rw [if_neg n]
 have dst' : updB D st st = true := by unfold updB; rw [if_pos rfl]
 have x29 : updV x st v e0 = x e0 := by unfold updV; rw [if_neg n]
 refine ⟨⟨qAV h.1 hV _ _ _ _ _ _ _ _, ⟨fun _ => up _ h3, fun _ => up _ (b.2.1 h3), fun _ => up _ (b.2.2.1 (b.2.1 h3)), fun _ => up _ (b.2.2.2 (b.2.2.1 (b.2.1 h3)))⟩, .inr ⟨dst', fs1, fA1, fn1, fc1, ft1, fB1, fm1, fd1, fs2, fA2, fn2, fc2, ft2, fB2, fm2, fd2, by rw [x29]; exact hf, qAL hx _ _ _ _ _ _ _ _⟩⟩, Nat.le_of_eq ht.1.symm, fun v c r hr => hr.touch (qAa hx) ht⟩
theorem GFill.full (h : GFill e0 mv cl ld st V1 X old t D x W) (h2 : D st = true) : ∃ fs1 fA1 fn1 fc1 ft1 fB1 fm1 fd1 fs2 fA2 fn2 fc2 ft2 fB2 fm2 fd2, x e0 = .agg #[.bool fs1, .slice fA1 fn1 fc1, .bool ft1, .slice fB1 fm1 fd1, .bool fs2, .slice fA2 fn2 fc2, .bool ft2, .slice fB2 fm2 fd2] ∧ W.heap[X]? = some (.cells #[.bool fs1, .slice fA1 fn1 fc1, .bool ft1, .slice fB1 fm1 fd1, .bool fs2, .slice fA2 fn2 fc2, .bool ft2, .slice fB2 fm2 fd2] t) := by
 obtain ⟨c3, -⟩ | ⟨c3, f⟩ := h.2.2
 ·rw [h2] at c3; cases c3
 ·exact f
end
theorem GFill.start {V1 V : World} {X : Nat} {old : Array Value} {t : TypeId} (e0 mv cl ld st n : Nat) (hn : (decide (st < n) && decide (e0 < n) && decide (mv < n) && decide (cl < n)) = true) (hle : Le V1 V) (hx : V.heap[X]? = some (.cells old t)) : ∀ D x, (∀ j, j < n → D j = false) → GFill e0 mv cl ld st V1 X old t D x { V with drawn := V.drawn + 1 } := fun D x hD => by
 simp only [Bool.and_eq_true, decide_eq_true_eq] at hn;obtain ⟨⟨⟨n1, n2⟩, n3⟩, n4⟩ := hn;exact ⟨hle.trans Le.drew, ⟨fun h => (by rw [hD st n1] at h; cases h), fun h => (by rw [hD e0 n2] at h; cases h), fun h => (by rw [hD mv n3] at h; cases h), fun h => (by rw [hD cl n4] at h; cases h)⟩, .inl ⟨hD st n1, bxl Le.drew hx⟩⟩
end Go.Proofs.YtabfaobakmjiaaaGreat
