/- Turning numbers as values: six cells (two fractions), eight cells (two api.Frac); boxes that hold them. -/
import Derived.Test.YtabfaobakmjiaaaGreatPk15
import Derived.Test.YtabfaobakmjiaaaGreatPk23
namespace Go.Proofs.YtabfaobakmjiaaaGreat
set_option maxRecDepth 100000
open Go.RowKit Go.Shelf
set_option linter.unusedVariables false
set_option linter.unusedSimpArgs false
set_option maxRecDepth 10000
abbrev RatT (k : IntKind) (w : World) (v : Value) (r : Rat) : Prop := RatL (fun _ => True) k w v r
abbrev qDW (w : World) (v : Value) (r : Rat) : Prop := FracL (fun _ => True) w v r
def TurnL (k : IntKind) (w : World) (v : Value) (g : G2) : Prop :=
 ∃ s1 A1 n1 c1 B1 m1 d1 s2 A2 n2 c2 B2 m2 d2, v = .agg #[.bool s1, .slice A1 n1 c1, .slice B1 m1 d1, .bool s2, .slice A2 n2 c2, .slice B2 m2 d2] ∧
  RatT k w (.agg #[.bool s1, .slice A1 n1 c1, .slice B1 m1 d1]) g.1 ∧ RatT k w (.agg #[.bool s2, .slice A2 n2 c2, .slice B2 m2 d2]) g.2
def TurnF (w : World) (v : Value) (g : G2) : Prop :=
 ∃ s1 A1 n1 c1 t1 B1 m1 d1 s2 A2 n2 c2 t2 B2 m2 d2, v = .agg #[.bool s1, .slice A1 n1 c1, .bool t1, .slice B1 m1 d1, .bool s2, .slice A2 n2 c2, .bool t2, .slice B2 m2 d2] ∧
  qDW w (.agg #[.bool s1, .slice A1 n1 c1, .bool t1, .slice B1 m1 d1]) g.1 ∧ qDW w (.agg #[.bool s2, .slice A2 n2 c2, .bool t2, .slice B2 m2 d2]) g.2
def IsTurnA (w : World) (v : Value) (x : FracA × FracA) : Prop :=
 ∃ A1 c1 B1 d1 A2 c2 B2 d2, v = .agg #[.bool x.1.sn, .slice A1 x.1.gn.length c1, .bool x.1.sd, .slice B1 x.1.gd.length d1, .bool x.2.sn, .slice A2 x.2.gn.length c2, .bool x.2.sd, .slice B2 x.2.gd.length d2] ∧
  IsFracA (fun _ => True) w (.agg #[.bool x.1.sn, .slice A1 x.1.gn.length c1, .bool x.1.sd, .slice B1 x.1.gd.length d1]) x.1 ∧ IsFracA (fun _ => True) w (.agg #[.bool x.2.sn, .slice A2 x.2.gn.length c2, .bool x.2.sd, .slice B2 x.2.gd.length d2]) x.2
noncomputable def tval (x : FracA × FracA) : Option G2 :=
 match x.1.rat?, x.2.rat? with
 | some a, some b => some (a, b)
 | _, _ => none
def qGU (v : Value) : Prop := ∃ s1 A1 n1 c1 B1 m1 d1 s2 A2 n2 c2 B2 m2 d2, v = .agg #[.bool s1, .slice A1 n1 c1, .slice B1 m1 d1, .bool s2, .slice A2 n2 c2, .slice B2 m2 d2]
theorem TurnL.mk {k : IntKind} {w : World} {g : G2} {s1 s2 : Bool} {A1 B1 A2 B2 : Option Addr} {n1 c1 m1 d1 n2 c2 m2 d2 : Nat} (h1 : RatT k w (.agg #[.bool s1, .slice A1 n1 c1, .slice B1 m1 d1]) g.1) (h2 : RatT k w (.agg #[.bool s2, .slice A2 n2 c2, .slice B2 m2 d2]) g.2) :
  TurnL k w (.agg #[.bool s1, .slice A1 n1 c1, .slice B1 m1 d1, .bool s2, .slice A2 n2 c2, .slice B2 m2 d2]) g := ⟨_, _, _, _, _, _, _, _, _, _, _, _, _, _, rfl, h1, h2⟩
theorem TurnF.mk {w : World} {g : G2} {s1 s2 t1 t2 : Bool} {A1 B1 A2 B2 : Option Addr} {n1 c1 m1 d1 n2 c2 m2 d2 : Nat} (h1 : qDW w (.agg #[.bool s1, .slice A1 n1 c1, .bool t1, .slice B1 m1 d1]) g.1) (h2 : qDW w (.agg #[.bool s2, .slice A2 n2 c2, .bool t2, .slice B2 m2 d2]) g.2) :
  TurnF w (.agg #[.bool s1, .slice A1 n1 c1, .bool t1, .slice B1 m1 d1, .bool s2, .slice A2 n2 c2, .bool t2, .slice B2 m2 d2]) g := ⟨_, _, _, _, _, _, _, _, _, _, _, _, _, _, _, _, rfl, h1, h2⟩
theorem TurnL.le {k : IntKind} {w W : World} {v : Value} {g : G2} (h : TurnL k w v g) (hb : Le w W) : TurnL k W v g := by
 obtain ⟨s1, A1, n1, c1, B1, m1, d1, s2, A2, n2, c2, B2, m2, d2, rfl, h1, h2⟩ := h;exact .mk (h1.le hb) (h2.le hb)
theorem TurnF.le {w W : World} {v : Value} {g : G2} (h : TurnF w v g) (hb : Le w W) : TurnF W v g := by
 obtain ⟨s1, A1, n1, c1, t1, B1, m1, d1, s2, A2, n2, c2, t2, B2, m2, d2, rfl, h1, h2⟩ := h;exact .mk (h1.le hb) (h2.le hb)
theorem IsTurnA.le {w W : World} {v : Value} {x : FracA × FracA} (h : IsTurnA w v x) (hb : Le w W) : IsTurnA W v x := by
 obtain ⟨A1, c1, B1, d1, A2, c2, B2, d2, rfl, h1, h2⟩ := h;exact ⟨A1, c1, B1, d1, A2, c2, B2, d2, rfl, h1.le hb, h2.le hb⟩
theorem TurnL.form {k : IntKind} {w : World} {v : Value} {g : G2} (h : TurnL k w v g) : qGU v := by
 obtain ⟨s1, A1, n1, c1, B1, m1, d1, s2, A2, n2, c2, B2, m2, d2, rfl, -, -⟩ := h;exact ⟨s1, A1, n1, c1, B1, m1, d1, s2, A2, n2, c2, B2, m2, d2, rfl⟩
theorem FracL.fform {L : Nat → Prop} {w : World} {v : Value} {r : Rat} (h : FracL L w v r) : qMS v := by
 obtain ⟨A, c, B, d, e, -, -⟩ := h;exact ⟨_, _, _, _, _, _, _, _, e⟩
def MPred.turn (k : IntKind) (g : G2) : MPred := ⟨fun v w => TurnL k w v g, fun _ _ _ hb h => h.le hb⟩
def MPred.ratT (k : IntKind) (r : Rat) : MPred := ⟨fun v w => RatT k w v r, fun _ _ _ hb h => h.le hb⟩
def MPred.frO (r : Rat) : MPred := ⟨fun v w => Rsz r 40 ∧ qDW w v r, fun _ _ _ hb h => ⟨h.1, h.2.le hb⟩⟩
def Touch (B : Nat) (W W' : World) : Prop := W'.heap.size = W.heap.size ∧ (∀ b, b ≠ B → W'.heap[b]? = W.heap[b]?) ∧ ∀ cs t, W.heap[B]? = some (.cells cs t) → ∃ cs', W'.heap[B]? = some (.cells cs' t)
theorem Touch.refl (B : Nat) (W : World) : Touch B W W := ⟨rfl, fun _ _ => rfl, fun cs t h => ⟨cs, h⟩⟩
theorem Touch.set {B : Nat} {W W' : World} (h : Touch B W W') (i : Nat) (u : Value) : Touch B W (W'.setCell ⟨B, i, none⟩ u) := by
 obtain ⟨h1, h2, h3⟩ := h;refine ⟨by simpa [World.setCell] using h1, fun b hb => (Below.heap_setCell _ _ _ _ hb).trans (h2 b hb), fun cs t hc => ?_⟩;obtain ⟨cs', hc'⟩ := h3 cs t hc;exact ⟨cs'.setIfInBounds i u, by simp [World.setCell, Array.getElem?_modify, hc']⟩
def qBg (W : World) (B : Nat) : Prop := ∃ cs t, W.heap[B]? = some (.cells cs t) ∧ ∀ (i : Nat) (k : IntKind) (z : Int), cs[i]? ≠ some (.int k z)
theorem ArrL.touch {α : Type} {L : Nat → Prop} {f : α → Value} {W W' : World} {v : Value} {xs : List α} {B : Nat} (hf : ∀ x, ∃ k z, f x = .int k z) (h : ArrL L f W v xs) (hk : qBg W B) (ht : Touch B W W') : ArrL L f W' v xs := by
 obtain ⟨A, c, hv, h1, h2, hN, h3⟩ := h;refine ⟨A, c, hv, h1, h2, hN, fun h0 => ?_⟩;obtain ⟨b, off, ha, hb, hlt, hc⟩ := h3 h0;obtain ⟨cs, t, hbx, hno⟩ := hk
 have hne : b ≠ B := by
  rintro rfl;have h4 := hc 0 h0;obtain ⟨k, z, hz⟩ := hf xs[0];rw [hz] at h4;simp only [World.cell?, hbx] at h4;exact hno _ _ _ h4
 exact ⟨b, off, ha, hb, by rw [ht.1]; exact hlt, fun j hj => (World.cell?_of_block (ht.2.1 b hne)).trans (hc j hj)⟩
theorem NumL.touch {L : Nat → Prop} {k : IntKind} {W W' : World} {v : Value} {n B : Nat} (h : NumL L k W v n) (hk : qBg W B) (ht : Touch B W W') : NumL L k W' v n := ArrL.touch (fun x => ⟨k, _, rfl⟩) h hk ht
theorem RatL.touch {L : Nat → Prop} {k : IntKind} {W W' : World} {v : Value} {r : Rat} {B : Nat} (h : RatL L k W v r) (hk : qBg W B) (ht : Touch B W W') : RatL L k W' v r := by
 obtain ⟨vn, vd, e, h1, h2⟩ := h;exact ⟨vn, vd, e, h1.touch hk ht, h2.touch hk ht⟩
theorem Unf.touch {W W' : World} {v : Value} {B : Nat} (h : Unf W v) (ht : Touch B W W') : Unf W' v := fun b off m c e => by
 obtain ⟨cs, t, h1⟩ := h b off m c e
 by_cases hb : b = B
 ·subst hb;obtain ⟨cs', h2⟩ := ht.2.2 cs t h1;exact ⟨cs', t, h2⟩
 ·exact ⟨cs, t, (ht.2.1 b hb).trans h1⟩
theorem FracL.touch {L : Nat → Prop} {W W' : World} {v : Value} {r : Rat} {B : Nat} (h : FracL L W v r) (hk : qBg W B) (ht : Touch B W W') : FracL L W' v r := by
 obtain ⟨A, c, C, d, e, h1, h2⟩ := h;exact ⟨A, c, C, d, e, ⟨h1.1.touch hk ht, h1.2.touch ht⟩, ⟨h2.1.touch hk ht, h2.2.touch ht⟩⟩
theorem TurnL.touch {k : IntKind} {W W' : World} {v : Value} {g : G2} {B : Nat} (h : TurnL k W v g) (hk : qBg W B) (ht : Touch B W W') : TurnL k W' v g := by
 obtain ⟨s1, A1, n1, c1, B1, m1, d1, s2, A2, n2, c2, B2, m2, d2, rfl, h1, h2⟩ := h;exact .mk (h1.touch hk ht) (h2.touch hk ht)
theorem TurnF.touch {W W' : World} {v : Value} {g : G2} {B : Nat} (h : TurnF W v g) (hk : qBg W B) (ht : Touch B W W') : TurnF W' v g := by
 obtain ⟨s1, A1, n1, c1, t1, B1, m1, d1, s2, A2, n2, c2, t2, B2, m2, d2, rfl, h1, h2⟩ := h;exact .mk (h1.touch hk ht) (h2.touch hk ht)
def set6 (W : World) (X : Nat) (u0 u1 u2 u3 u4 u5 : Value) : World := (((((W.setCell ⟨X, 0, none⟩ u0).setCell ⟨X, 1, none⟩ u1).setCell ⟨X, 2, none⟩ u2).setCell ⟨X, 3, none⟩ u3).setCell ⟨X, 4, none⟩ u4).setCell ⟨X, 5, none⟩ u5
def set8 (W : World) (X : Nat) (u0 u1 u2 u3 u4 u5 u6 u7 : Value) : World := (((((((W.setCell ⟨X, 0, none⟩ u0).setCell ⟨X, 1, none⟩ u1).setCell ⟨X, 2, none⟩ u2).setCell ⟨X, 3, none⟩ u3).setCell ⟨X, 4, none⟩ u4).setCell ⟨X, 5, none⟩ u5).setCell ⟨X, 6, none⟩ u6).setCell ⟨X, 7, none⟩ u7
theorem qC9 (W : World) (X : Nat) (u0 u1 u2 : Value) : Touch X W (((W.setCell ⟨X, 0, none⟩ u0).setCell ⟨X, 1, none⟩ u1).setCell ⟨X, 2, none⟩ u2) := (((Touch.refl X W).set 0 u0).set 1 u1).set 2 u2
theorem qAE (W : World) (X : Nat) (u0 u1 u2 u3 u4 u5 : Value) : Touch X W (set6 W X u0 u1 u2 u3 u4 u5) := ((((((Touch.refl X W).set 0 u0).set 1 u1).set 2 u2).set 3 u3).set 4 u4).set 5 u5
theorem qAM (W : World) (X : Nat) (u0 u1 u2 u3 u4 u5 u6 u7 : Value) : Touch X W (set8 W X u0 u1 u2 u3 u4 u5 u6 u7) := ((((((((Touch.refl X W).set 0 u0).set 1 u1).set 2 u2).set 3 u3).set 4 u4).set 5 u5).set 6 u6).set 7 u7
theorem qAX {W : World} {X : Nat} {v0 v1 v2 v3 v4 v5 : Value} {t : TypeId} (h : W.heap[X]? = some (Obj.cells #[v0, v1, v2, v3, v4, v5] t)) (u0 u1 u2 u3 u4 u5 : Value) : (set6 W X u0 u1 u2 u3 u4 u5).heap[X]? = some (.cells #[u0, u1, u2, u3, u4, u5] t) := by
 simp only [set6, World.setCell, Array.getElem?_modify, h];simp
theorem qAL {W : World} {X : Nat} {v0 v1 v2 v3 v4 v5 v6 v7 : Value} {t : TypeId} (h : W.heap[X]? = some (Obj.cells #[v0, v1, v2, v3, v4, v5, v6, v7] t)) (u0 u1 u2 u3 u4 u5 u6 u7 : Value) : (set8 W X u0 u1 u2 u3 u4 u5 u6 u7).heap[X]? = some (.cells #[u0, u1, u2, u3, u4, u5, u6, u7] t) := by
 simp only [set8, World.setCell, Array.getElem?_modify, h];simp
theorem qAj {w W : World} {X : Nat} (h : Le w W) (hX : w.heap.size ≤ X) (u0 u1 u2 u3 u4 u5 : Value) : Le w (set6 W X u0 u1 u2 u3 u4 u5) :=
 (((((Below.setCell h (p := ⟨X, 0, none⟩) hX _).setCell (p := ⟨X, 1, none⟩) hX _).setCell (p := ⟨X, 2, none⟩) hX _).setCell (p := ⟨X, 3, none⟩) hX _).setCell (p := ⟨X, 4, none⟩) hX _).setCell (p := ⟨X, 5, none⟩) hX _
theorem qAV {w W : World} {X : Nat} (h : Le w W) (hX : w.heap.size ≤ X) (u0 u1 u2 u3 u4 u5 u6 u7 : Value) : Le w (set8 W X u0 u1 u2 u3 u4 u5 u6 u7) :=
 (((((((Below.setCell h (p := ⟨X, 0, none⟩) hX _).setCell (p := ⟨X, 1, none⟩) hX _).setCell (p := ⟨X, 2, none⟩) hX _).setCell (p := ⟨X, 3, none⟩) hX _).setCell (p := ⟨X, 4, none⟩) hX _).setCell (p := ⟨X, 5, none⟩) hX _).setCell (p := ⟨X, 6, none⟩) hX _).setCell (p := ⟨X, 7, none⟩) hX _
theorem qAC {W : World} {X : Nat} {v0 v1 v2 v3 v4 v5 : Value} {t : TypeId} (h : W.heap[X]? = some (Obj.cells #[v0, v1, v2, v3, v4, v5] t)) : W.cell? ⟨X, 0, none⟩ = some v0 ∧ W.cell? ⟨X, 1, none⟩ = some v1 ∧ W.cell? ⟨X, 2, none⟩ = some v2 ∧ W.cell? ⟨X, 3, none⟩ = some v3 ∧ W.cell? ⟨X, 4, none⟩ = some v4 ∧ W.cell? ⟨X, 5, none⟩ = some v5 :=
 ⟨cell_of_row W X 0 _ _ _ h, cell_of_row W X 1 _ _ _ h, cell_of_row W X 2 _ _ _ h, cell_of_row W X 3 _ _ _ h, cell_of_row W X 4 _ _ _ h, cell_of_row W X 5 _ _ _ h⟩
theorem qAB {W : World} {X : Nat} {v0 v1 v2 v3 v4 v5 v6 v7 : Value} {t : TypeId} (h : W.heap[X]? = some (Obj.cells #[v0, v1, v2, v3, v4, v5, v6, v7] t)) : W.cell? ⟨X, 0, none⟩ = some v0 ∧ W.cell? ⟨X, 1, none⟩ = some v1 ∧ W.cell? ⟨X, 2, none⟩ = some v2 ∧ W.cell? ⟨X, 3, none⟩ = some v3 ∧ W.cell? ⟨X, 4, none⟩ = some v4 ∧ W.cell? ⟨X, 5, none⟩ = some v5 ∧ W.cell? ⟨X, 6, none⟩ = some v6 ∧ W.cell? ⟨X, 7, none⟩ = some v7 :=
 ⟨cell_of_row W X 0 _ _ _ h, cell_of_row W X 1 _ _ _ h, cell_of_row W X 2 _ _ _ h, cell_of_row W X 3 _ _ _ h, cell_of_row W X 4 _ _ _ h, cell_of_row W X 5 _ _ _ h, cell_of_row W X 6 _ _ _ h, cell_of_row W X 7 _ _ _ h⟩
theorem qFE {W : World} {X : Nat} {s1 : Bool} {A1 B1 : Option Addr} {n1 c1 m1 d1 : Nat} {t : TypeId} (h : W.heap[X]? = some (Obj.cells #[.bool s1, .slice A1 n1 c1, .slice B1 m1 d1] t)) : qBg W X := by
 refine ⟨_, _, h, fun i k z => ?_⟩
 match i with
 | 0 | 1 | 2 => simp
 | i + 3 => simp
theorem qAN {W : World} {X : Nat} {s1 s2 : Bool} {A1 B1 A2 B2 : Option Addr} {n1 c1 m1 d1 n2 c2 m2 d2 : Nat} {t : TypeId} (h : W.heap[X]? = some (Obj.cells #[.bool s1, .slice A1 n1 c1, .slice B1 m1 d1, .bool s2, .slice A2 n2 c2, .slice B2 m2 d2] t)) : qBg W X := by
 refine ⟨_, _, h, fun i k z => ?_⟩
 match i with
 | 0 | 1 | 2 | 3 | 4 | 5 => simp
 | i + 6 => simp
theorem qAa {W : World} {X : Nat} {s1 s2 t1 t2 : Bool} {A1 B1 A2 B2 : Option Addr} {n1 c1 m1 d1 n2 c2 m2 d2 : Nat} {t : TypeId} (h : W.heap[X]? = some (Obj.cells #[.bool s1, .slice A1 n1 c1, .bool t1, .slice B1 m1 d1, .bool s2, .slice A2 n2 c2, .bool t2, .slice B2 m2 d2] t)) : qBg W X := by
 refine ⟨_, _, h, fun i k z => ?_⟩
 match i with
 | 0 | 1 | 2 | 3 | 4 | 5 | 6 | 7 => simp
 | i + 8 => simp
theorem bxl {w W : World} {B : Nat} {o : Obj} (h : Le w W) (hk : w.heap[B]? = some o) : W.heap[B]? = some o := (Below.block h B (gsl hk)).trans hk
def IsResT (w : World) (v : Value) (c : Int) : Except Int G2 → Prop
 | .ok g => TurnF w v g ∧ c = 0
 | .error x => v = .agg #[.bool false, .slice none 0 0, .bool false, .slice none 0 0, .bool false, .slice none 0 0, .bool false, .slice none 0 0] ∧ c = x
def qAi (res : Except Int G2) (w : World) (e : Ending) (w' : World) : Prop := Le w w' ∧ ∃ v c, e = .returned (.tuple #[v, .int .i64 c]) ∧ IsResT w' v c res
open Classical in
noncomputable def outG (g : G2) : Except Int G2 := if TSz g 40 then .ok g else .error 12
theorem qB8 {g : G2} (h : TSz g 40) : outG g = .ok g := by unfold outG; rw [if_pos h]
theorem qCa {g : G2} (h : ¬ TSz g 40) : outG g = .error 12 := by unfold outG; rw [if_neg h]
def OperPostT (res : Except Int G2) (w : World) (e : Ending) (w' : World) : Prop := Le w w' ∧ ((∃ r v, res = .ok r ∧ e = .returned v ∧ TurnF w' v r) ∨ (∃ c, res = .error c ∧ e = .panicked (flt c)))
noncomputable def opG (f : G2 → G2 → Except Int G2) (x y : FracA × FracA) : Except Int G2 :=
 match tval x, tval y with
 | some a, some b => f a b
 | _, _ => .error 10
theorem qH7 {x : FracA × FracA} {a b : Rat} (h1 : x.1.rat? = some a) (h2 : x.2.rat? = some b) : tval x = some (a, b) := by unfold tval; rw [h1, h2]
theorem qKf {x : FracA × FracA} (h : x.1.rat? = none) : tval x = none := by unfold tval; rw [h]
theorem qJw {x : FracA × FracA} (h : x.2.rat? = none) : tval x = none := by
 unfold tval;rw [h]
 cases x.1.rat? <;> rfl
theorem qDH {x : FracA × FracA} {g : G2} (h : tval x = some g) : x.1.rat? = some g.1 ∧ x.2.rat? = some g.2 := by
 unfold tval at h
 cases h1 : x.1.rat? with
 | none => rw [h1] at h; cases h
 | some a =>
  cases h2 : x.2.rat? with
  | none => rw [h1, h2] at h; cases h
  | some b =>
   rw [h1, h2] at h;injection h with h;subst h;exact ⟨rfl, rfl⟩
theorem qDk {x : FracA × FracA} {g : G2} (h : tval x = some g) : TSz g 40 := ⟨FracA.sz (qDH h).1, FracA.sz (qDH h).2⟩
theorem TSz.up {g : G2} {m n : Nat} (h : TSz g m) (hmn : m ≤ n) : TSz g n := ⟨h.1.up hmn, h.2.up hmn⟩
theorem qBY {a b : Rat} {n m : Nat} (ha : Rsz a n) (hb : Rsz b n) (h : n + n ≤ m) : Rsz (a * b) m := (qDR ha hb).up h
theorem qEa {b : G2} {n : Nat} (h : TSz b n) : TSz (qAP b) n := ⟨h.1, qEV h.2⟩
theorem qLr {a b : G2} {n m : Nat} (ha : TSz a n) (hb : TSz b n) (h : n + n + (n + n) + 1 ≤ m) : TSz (gmul a b) m :=
 ⟨(qLq (qDR ha.1 hb.1) (qDR ha.2 hb.2)).up h, (qCS (qDR ha.1 hb.2) (qDR ha.2 hb.1)).up h⟩
theorem qFm {a : G2} {n m : Nat} (ha : TSz a n) (h : n + n + (n + n) + 1 ≤ m) : Rsz (qAI a) m := (qCS (qDR ha.1 ha.1) (qDR ha.2 ha.2)).up h
def qLs (x : FracA × FracA) (w : World) (e : Ending) (w' : World) : Prop := Le w w' ∧ ((∃ g v, tval x = some g ∧ e = .returned v ∧ TurnL .u32 w' v g) ∨ (tval x = none ∧ e = .panicked (flt 10)))
def MPred.turnO (x : FracA × FracA) : MPred := ⟨fun v w => ∃ g, tval x = some g ∧ TurnL .u32 w v g, fun _ _ _ hb ⟨g, h1, h2⟩ => ⟨g, h1, h2.le hb⟩⟩
def MPred.turnFO (g : G2) : MPred := ⟨fun v w => TSz g 40 ∧ TurnF w v g, fun _ _ _ hb h => ⟨h.1, h.2.le hb⟩⟩
def TBox (k : IntKind) (t : TypeId) (W : World) (B : Nat) (g : G2) : Prop :=
 ∃ s1 A1 n1 c1 B1 m1 d1 s2 A2 n2 c2 B2 m2 d2, W.heap[B]? = some (.cells #[.bool s1, .slice A1 n1 c1, .slice B1 m1 d1, .bool s2, .slice A2 n2 c2, .slice B2 m2 d2] t) ∧
  RatT k W (.agg #[.bool s1, .slice A1 n1 c1, .slice B1 m1 d1]) g.1 ∧ RatT k W (.agg #[.bool s2, .slice A2 n2 c2, .slice B2 m2 d2]) g.2
theorem TBox.le {k : IntKind} {t : TypeId} {w W : World} {B : Nat} {g : G2} (h : TBox k t w B g) (hb : Le w W) : TBox k t W B g := by
 obtain ⟨s1, A1, n1, c1, B1, m1, d1, s2, A2, n2, c2, B2, m2, d2, hk, h1, h2⟩ := h;exact ⟨s1, A1, n1, c1, B1, m1, d1, s2, A2, n2, c2, B2, m2, d2, bxl hb hk, h1.le hb, h2.le hb⟩
theorem TBox.noInt {k : IntKind} {t : TypeId} {W : World} {B : Nat} {g : G2} (h : TBox k t W B g) : qBg W B := by
 obtain ⟨s1, A1, n1, c1, B1, m1, d1, s2, A2, n2, c2, B2, m2, d2, hk, h1, h2⟩ := h;exact qAN hk
theorem TBox.other {k : IntKind} {t : TypeId} {W W' : World} {B C : Nat} {g : G2} (h : TBox k t W C g) (hn : qBg W B) (ht : Touch B W W') (hne : C ≠ B) : TBox k t W' C g := by
 obtain ⟨s1, A1, n1, c1, B1, m1, d1, s2, A2, n2, c2, B2, m2, d2, hk, h1, h2⟩ := h;exact ⟨s1, A1, n1, c1, B1, m1, d1, s2, A2, n2, c2, B2, m2, d2, (ht.2.1 C hne).trans hk, h1.touch hn ht, h2.touch hn ht⟩
theorem TBox.put {k : IntKind} {t : TypeId} {W : World} {B : Nat} {g g' : G2} (h : TBox k t W B g') {s1 s2 : Bool} {A1 B1 A2 B2 : Option Addr} {n1 c1 m1 d1 n2 c2 m2 d2 : Nat}
  (h1 : RatT k W (.agg #[.bool s1, .slice A1 n1 c1, .slice B1 m1 d1]) g.1) (h2 : RatT k W (.agg #[.bool s2, .slice A2 n2 c2, .slice B2 m2 d2]) g.2) :
  TBox k t (set6 W B (.bool s1) (.slice A1 n1 c1) (.slice B1 m1 d1) (.bool s2) (.slice A2 n2 c2) (.slice B2 m2 d2)) B g := by
 have hn := h.noInt;obtain ⟨s1', A1', n1', c1', B1', m1', d1', s2', A2', n2', c2', B2', m2', d2', hk, -, -⟩ := h;exact ⟨_, _, _, _, _, _, _, _, _, _, _, _, _, _, qAX hk _ _ _ _ _ _, h1.touch hn (qAE _ _ _ _ _ _ _ _), h2.touch hn (qAE _ _ _ _ _ _ _ _)⟩
theorem TBox.mk {k : IntKind} {t : TypeId} {W : World} {B : Nat} {g : G2} {s1 s2 : Bool} {A1 B1 A2 B2 : Option Addr} {n1 c1 m1 d1 n2 c2 m2 d2 : Nat} (hk : W.heap[B]? = some (.cells #[.bool s1, .slice A1 n1 c1, .slice B1 m1 d1, .bool s2, .slice A2 n2 c2, .slice B2 m2 d2] t))
  (h1 : RatT k W (.agg #[.bool s1, .slice A1 n1 c1, .slice B1 m1 d1]) g.1) (h2 : RatT k W (.agg #[.bool s2, .slice A2 n2 c2, .slice B2 m2 d2]) g.2) : TBox k t W B g := ⟨_, _, _, _, _, _, _, _, _, _, _, _, _, _, hk, h1, h2⟩
theorem rsgn_both {g : G2} : (rsgn g.1 = 0 ∧ rsgn g.2 = 0) ↔ qAI g = 0 := by
 rw [qH6, qH6];constructor
 ·rintro ⟨h1, h2⟩;unfold qAI;rw [h1, h2]
  grind
 ·exact qE8
theorem qLt {s t n N : Nat} (h : s + t * n = N) (ho : n % 2 = 1) : (s + t) + (t + t) * (n / 2) = N := by
 have h2 : n = 2 * (n / 2) + 1 := by omega
 rw [← h];generalize n / 2 = m at *;subst h2;rw [Nat.mul_add, ← Nat.mul_assoc, Nat.mul_comm t 2, Nat.two_mul];omega
theorem qLT {s t n N : Nat} (h : s + t * n = N) (ho : ¬ n % 2 = 1) : s + (t + t) * (n / 2) = N := by
 have h2 : n = 2 * (n / 2) := by omega
 rw [← h];generalize n / 2 = m at *;subst h2;rw [← Nat.mul_assoc, Nat.mul_comm t 2, Nat.two_mul]
def ABox (W : World) (B : Nat) (x : FracA × FracA) : Prop :=
 ∃ A1 c1 B1 d1 A2 c2 B2 d2, W.heap[B]? = some (.cells #[.bool x.1.sn, .slice A1 x.1.gn.length c1, .bool x.1.sd, .slice B1 x.1.gd.length d1, .bool x.2.sn, .slice A2 x.2.gn.length c2, .bool x.2.sd, .slice B2 x.2.gd.length d2] 79) ∧
  IsFracA (fun _ => True) W (.agg #[.bool x.1.sn, .slice A1 x.1.gn.length c1, .bool x.1.sd, .slice B1 x.1.gd.length d1]) x.1 ∧ IsFracA (fun _ => True) W (.agg #[.bool x.2.sn, .slice A2 x.2.gn.length c2, .bool x.2.sd, .slice B2 x.2.gd.length d2]) x.2
theorem ABox.le {w W : World} {B : Nat} {x : FracA × FracA} (h : ABox w B x) (hb : Le w W) : ABox W B x := by
 obtain ⟨A1, c1, B1, d1, A2, c2, B2, d2, hk, h1, h2⟩ := h;exact ⟨A1, c1, B1, d1, A2, c2, B2, d2, bxl hb hk, h1.le hb, h2.le hb⟩
theorem ABox.lt {W : World} {B : Nat} {x : FracA × FracA} (h : ABox W B x) : B < W.heap.size := by
 obtain ⟨A1, c1, B1, d1, A2, c2, B2, d2, hk, h1, h2⟩ := h;exact (gsl hk)
theorem IsTurnA.mk {w : World} {x : FracA × FracA} {A1 B1 A2 B2 : Option Addr} {c1 d1 c2 d2 : Nat} (h1 : IsFracA (fun _ => True) w (.agg #[.bool x.1.sn, .slice A1 x.1.gn.length c1, .bool x.1.sd, .slice B1 x.1.gd.length d1]) x.1) (h2 : IsFracA (fun _ => True) w (.agg #[.bool x.2.sn, .slice A2 x.2.gn.length c2, .bool x.2.sd, .slice B2 x.2.gd.length d2]) x.2) :
  IsTurnA w (.agg #[.bool x.1.sn, .slice A1 x.1.gn.length c1, .bool x.1.sd, .slice B1 x.1.gd.length d1, .bool x.2.sn, .slice A2 x.2.gn.length c2, .bool x.2.sd, .slice B2 x.2.gd.length d2]) x := ⟨_, _, _, _, _, _, _, _, rfl, h1, h2⟩
def qIB (P : Program) (g : FuncId) (f : G2 → G2 → Except Int G2) : Prop := ∀ a b va vb (W : World), TSz a 40 → TSz b 40 → TurnL .u32 W va a → TurnL .u32 W vb b →
 Calls P g #[va, vb] W (fun e W' => Le W W' ∧ ((∃ r v, f a b = outG r ∧ e = .returned v ∧ TurnL .u32 W' v r) ∨ (∃ c, f a b = .error c ∧ e = .panicked (flt c))))
theorem qCt {f : G2 → G2 → Except Int G2} {x y : FracA × FracA} {a b : G2} (h1 : tval x = some a) (h2 : tval y = some b) : opG f x y = f a b := by unfold opG; rw [h1, h2]
theorem qLu {f : G2 → G2 → Except Int G2} {x y : FracA × FracA} (h : tval x = none ∨ tval y = none) : opG f x y = .error 10 := by
 unfold opG
 rcases h with h | h
 ·rw [h]
 ·rw [h]
  cases tval x <;> rfl
theorem IsResT.touch {W W' : World} {v : Value} {c : Int} {res : Except Int G2} {B : Nat} (h : IsResT W v c res) (hk : qBg W B) (ht : Touch B W W') : IsResT W' v c res := by
 cases res with
 | ok g => exact ⟨h.1.touch hk ht, h.2⟩
 | error x => exact h
theorem IsResT.le {w W : World} {v : Value} {c : Int} {res : Except Int G2} (h : IsResT w v c res) (hb : Le w W) : IsResT W v c res := by
 cases res with
 | ok g => exact ⟨h.1.le hb, h.2⟩
 | error x => exact h
def qJx (v : Value) : Prop := ∃ s1 A1 n1 c1 t1 B1 m1 d1 s2 A2 n2 c2 t2 B2 m2 d2, v = .agg #[.bool s1, .slice A1 n1 c1, .bool t1, .slice B1 m1 d1, .bool s2, .slice A2 n2 c2, .bool t2, .slice B2 m2 d2]
theorem IsResT.form {W : World} {v : Value} {c : Int} {res : Except Int G2} (h : IsResT W v c res) : qJx v := by
 cases res with
 | ok g =>
  obtain ⟨⟨s1, A1, n1, c1, t1, B1, m1, d1, s2, A2, n2, c2, t2, B2, m2, d2, rfl, -, -⟩, -⟩ := h;exact ⟨_, _, _, _, _, _, _, _, _, _, _, _, _, _, _, _, rfl⟩
 | error x =>
  obtain ⟨rfl, -⟩ := h;exact ⟨_, _, _, _, _, _, _, _, _, _, _, _, _, _, _, _, rfl⟩
noncomputable def qMZ (x : FracA × FracA) : Except Int Rat :=
 match tval x with
 | some g => outR (qAI g)
 | none => .error 10
noncomputable def powG (x : FracA × FracA) (n : Int) : Except Int G2 :=
 match tval x with
 | some g => if n < -64 ∨ 64 < n then .error 2 else if n < 0 then (if qAI g = 0 then .error 11 else outG (gpow (ginv g) n.natAbs)) else outG (gpow g n.natAbs)
 | none => .error 10
theorem qH8 {x : FracA × FracA} {n : Int} (h : tval x = none) : powG x n = .error 10 := by unfold powG; rw [h]
theorem qI6 {x : FracA × FracA} {n : Int} {g : G2} (h : tval x = some g) (h1 : n < -64 ∨ 64 < n) : powG x n = .error 2 := by unfold powG; rw [h]; exact if_pos h1
theorem qH9 {x : FracA × FracA} {n : Int} {g : G2} (h : tval x = some g) (h1 : ¬ (n < -64 ∨ 64 < n)) (h2 : n < 0) (h3 : qAI g = 0) : powG x n = .error 11 := by
 unfold powG; rw [h]; show (if _ then _ else _) = _; rw [if_neg h1, if_pos h2, if_pos h3]
theorem qI7 {x : FracA × FracA} {n : Int} {g : G2} (h : tval x = some g) (h1 : ¬ (n < -64 ∨ 64 < n)) (h2 : n < 0) (h3 : qAI g ≠ 0) : powG x n = outG (gpow (ginv g) n.natAbs) := by
 unfold powG; rw [h]; show (if _ then _ else _) = _; rw [if_neg h1, if_pos h2, if_neg h3]
theorem qFn {x : FracA × FracA} {n : Int} {g : G2} (h : tval x = some g) (h1 : ¬ (n < -64 ∨ 64 < n)) (h2 : ¬ n < 0) : powG x n = outG (gpow g n.natAbs) := by
 unfold powG; rw [h]; show (if _ then _ else _) = _; rw [if_neg h1, if_neg h2]
theorem qDl (z : Int) (hz0 : -9223372036854775808 ≤ z) (hz1 : z ≤ 9223372036854775807) : Rsz (z : Rat) 3 :=
 ⟨qBp (N := z.natAbs) (by omega), by rw [show (z : Rat).den = 1 from rfl, qCg]; simp⟩
def ndG (n d : Int) : G2 := ((d : Rat), (n : Rat))
noncomputable def qAu (n d : Int) : Except Int G2 := if n = 0 ∧ d = 0 then .error 11 else outG (gdiv (ndG n d) (qAP (ndG n d)))
theorem qFo {n d : Int} (h : ¬ (n = 0 ∧ d = 0)) : qAI (qAP (ndG n d)) ≠ 0 := by
 intro h0;have h1 := qE8 h0;have h2 : (d : Rat) = 0 := h1.1;have h3 : -(n : Rat) = 0 := h1.2;have h4 : (n : Rat) = 0 := by grind
 exact h ⟨by exact_mod_cast h4, by exact_mod_cast h2⟩
theorem qKg {n d : Int} (hn0 : -9223372036854775808 ≤ n) (hn1 : n ≤ 9223372036854775807) (hd0 : -9223372036854775808 ≤ d) (hd1 : d ≤ 9223372036854775807) : TSz (ndG n d) 3 := ⟨qDl d hd0 hd1, qDl n hn0 hn1⟩
theorem OperPostT.ok {r : G2} {w : World} {e : Ending} {w' : World} (h : OperPostT (.ok r) w e w') : ∃ v, e = .returned v ∧ Le w w' ∧ TurnF w' v r := by
 obtain ⟨hle, ⟨r', v, hr, rfl, hf⟩ | ⟨c, hr, -⟩⟩ := h
 ·injection hr with hr;subst hr;exact ⟨v, rfl, hle, hf⟩
 ·cases hr
theorem OperPostT.err {c : Int} {w : World} {e : Ending} {w' : World} (h : OperPostT (.error c) w e w') : e = .panicked (flt c) ∧ Le w w' := by
 obtain ⟨hle, ⟨r', v, hr, -⟩ | ⟨c', hr, rfl⟩⟩ := h
 ·cases hr
 ·injection hr with hr;subst hr;exact ⟨rfl, hle⟩
def TurnC (W : World) (v : Value) (x : FracA × FracA) : Prop := qGU v ∧ ∀ g, tval x = some g → TurnL .i64 W v g
theorem TurnC.touch {W W' : World} {v : Value} {x : FracA × FracA} {B : Nat} (h : TurnC W v x) (hk : qBg W B) (ht : Touch B W W') : TurnC W' v x := ⟨h.1, fun g hg => (h.2 g hg).touch hk ht⟩
theorem TurnC.le {w W : World} {v : Value} {x : FracA × FracA} (h : TurnC w v x) (hb : Le w W) : TurnC W v x := ⟨h.1, fun g hg => (h.2 g hg).le hb⟩
def qCb (x : FracA × FracA) (w : World) (e : Ending) (w' : World) : Prop := Le w w' ∧ ∃ v, e = .returned (.tuple #[v, .bool (tval x).isSome]) ∧ TurnC w' v x
def qEb (x y : FracA × FracA) (w : World) (e : Ending) (w' : World) : Prop := Le w w' ∧ ∃ vx vy, e = .returned (.tuple #[vx, vy, .bool ((tval x).isSome && (tval y).isSome)]) ∧ TurnC w' vx x ∧ TurnC w' vy y
theorem qKh (x : FracA × FracA) : (tval x).isSome = (okAF x.1 && okAF x.2) := by
 unfold tval okAF
 cases x.1.rat? <;> cases x.2.rat? <;> rfl
theorem qHa {x : FracA × FracA} (h : (tval x).isSome = true) : ∃ g, tval x = some g := Option.isSome_iff_exists.1 h
def qFF (x : FracA × FracA) (m : Nat) : Bool := qDQ x.1 m || qDQ x.2 m
theorem qI8 {f : G2 → G2 → Except Int G2} {x y : FracA × FracA} (h : ((tval x).isSome && (tval y).isSome) = false) : opG f x y = .error 10 := by
 unfold opG
 cases h1 : tval x with
 | none => rfl
 | some a =>
  cases h2 : tval y with
  | none => rfl
  | some b => rw [h1, h2] at h; cases h
theorem qI9 {x y : FracA × FracA} (h : ((tval x).isSome && (tval y).isSome) = true) : ∃ a b, tval x = some a ∧ tval y = some b := by
 rw [Bool.and_eq_true] at h;obtain ⟨a, ha⟩ := qHa h.1;obtain ⟨b, hb⟩ := qHa h.2;exact ⟨a, b, ha, hb⟩
theorem qJy {n d : Int} (h : ¬ (n = 0 ∧ d = 0)) : qAu n d = outG (gmul (ndG n d) (ginv (qAP (ndG n d)))) := by
 unfold qAu;rw [if_neg h, qJ0 (qFo h)]
def twoRel (B2 B3 : Nat) (o2 o3 : Obj) : WRel where
 r w W := W.heap.size = w.heap.size ∧ (∀ b, b ≠ B2 → b ≠ B3 → W.heap[b]? = w.heap[b]?) ∧ (W.heap[B2]? = w.heap[B2]? ∨ W.heap[B2]? = some o2) ∧ (W.heap[B3]? = w.heap[B3]? ∨ W.heap[B3]? = some o3) ∧ W.os = w.os ∧ W.tape = w.tape ∧ W.output = w.output
 refl w := ⟨rfl, fun _ _ _ => rfl, .inl rfl, .inl rfl, rfl, rfl, rfl⟩
 drew w := ⟨rfl, fun _ _ _ => rfl, .inl rfl, .inl rfl, rfl, rfl, rfl⟩
 trans := by
  rintro a b c ⟨h1, h2, h3, h4, h5, h6, h7⟩ ⟨k1, k2, k3, k4, k5, k6, k7⟩;refine ⟨k1.trans h1, fun b hb hb' => (k2 b hb hb').trans (h2 b hb hb'), ?_, ?_, k5.trans h5, k6.trans h6, k7.trans h7⟩
  ·rcases k3 with k | k
   ·rw [k]; exact h3
   ·exact .inr k
  ·rcases k4 with k | k
   ·rw [k]; exact h4
   ·exact .inr k
def MPredR.at2 {B2 B3 : Nat} {o2 o3 : Obj} : MPredR (twoRel B2 B3 o2 o3) := ⟨fun _ W => W.heap[B2]? = some o2, fun _ w w' h k => h.2.2.1.elim (fun h => h.trans k) id⟩
def MPredR.at3 {B2 B3 : Nat} {o2 o3 : Obj} : MPredR (twoRel B2 B3 o2 o3) := ⟨fun _ W => W.heap[B3]? = some o3, fun _ w w' h k => h.2.2.2.1.elim (fun h => h.trans k) id⟩
theorem qHb (W : World) (X : Nat) (u0 u1 u2 u3 u4 u5 : Value) : Below 0 W (set6 W X u0 u1 u2 u3 u4 u5) :=
 (((((Below.setCell (Below.refl 0 W) (Nat.zero_le _) _).setCell (Nat.zero_le _) _).setCell (Nat.zero_le _) _).setCell (Nat.zero_le _) _).setCell (Nat.zero_le _) _).setCell (Nat.zero_le _) _
theorem twoRel.set2 {B2 B3 : Nat} {o2 o3 : Obj} {W : World} {v0 v1 v2 v3 v4 v5 u0 u1 u2 u3 u4 u5 : Value} {t : TypeId} (hne : B2 ≠ B3) (h : W.heap[B2]? = some (.cells #[v0, v1, v2, v3, v4, v5] t)) (ho : o2 = .cells #[u0, u1, u2, u3, u4, u5] t := by rfl) : (twoRel B2 B3 o2 o3).r W (set6 W B2 u0 u1 u2 u3 u4 u5) := by
 have ht := qAE W B2 u0 u1 u2 u3 u4 u5;have hr := qHb W B2 u0 u1 u2 u3 u4 u5;exact ⟨ht.1, fun b hb _ => ht.2.1 b hb, .inr (by rw [ho]; exact qAX h _ _ _ _ _ _), .inl (ht.2.1 B3 (Ne.symm hne)), hr.os, hr.tape, hr.output⟩
theorem twoRel.set3 {B2 B3 : Nat} {o2 o3 : Obj} {W : World} {v0 v1 v2 v3 v4 v5 u0 u1 u2 u3 u4 u5 : Value} {t : TypeId} (hne : B2 ≠ B3) (h : W.heap[B3]? = some (.cells #[v0, v1, v2, v3, v4, v5] t)) (ho : o3 = .cells #[u0, u1, u2, u3, u4, u5] t := by rfl) : (twoRel B2 B3 o2 o3).r W (set6 W B3 u0 u1 u2 u3 u4 u5) := by
 have ht := qAE W B3 u0 u1 u2 u3 u4 u5;have hr := qHb W B3 u0 u1 u2 u3 u4 u5;exact ⟨ht.1, fun b _ hb => ht.2.1 b hb, .inl (ht.2.1 B2 hne), .inr (by rw [ho]; exact qAX h _ _ _ _ _ _), hr.os, hr.tape, hr.output⟩
theorem twoRel.le {B2 B3 : Nat} {o2 o3 : Obj} {w V W : World} (h : (twoRel B2 B3 o2 o3).r V W) (hl : Le w V) (h2 : w.heap.size ≤ B2) (h3 : w.heap.size ≤ B3) : Le w W := by
 obtain ⟨r1, r2, -, -, r5, r6, r7⟩ := h;exact Below.trans hl ⟨r5, r6, r7, by omega, fun k hk => r2 k (by omega) (by omega)⟩
theorem twoRel.num {B2 B3 : Nat} {o2 o3 : Obj} {V W : World} (h : (twoRel B2 B3 o2 o3).r V W) {L : Nat → Prop} {k : IntKind} {v : Value} {n : Nat} (hv : NumL L k V v n) (h2 : qBg V B2) (h3 : qBg V B3) : NumL L k W v n := by
 obtain ⟨A, c, hv, g1, g2, hN, g3⟩ := hv;refine ⟨A, c, hv, g1, g2, hN, fun h0 => ?_⟩;obtain ⟨b, off, ha, hb, hlt, hc⟩ := g3 h0
 have hno : ∀ B, qBg V B → b ≠ B := by
  rintro B ⟨cs, t, hbx, hno⟩ rfl;have h4 := hc 0 h0;simp only [World.cell?, hbx] at h4;exact hno _ _ _ h4
 exact ⟨b, off, ha, hb, by rw [h.1]; exact hlt, fun j hj => (World.cell?_of_block (h.2.1 b (hno _ h2) (hno _ h3))).trans (hc j hj)⟩
theorem twoRel.turnC {B2 B3 : Nat} {o2 o3 : Obj} {V W : World} (h : (twoRel B2 B3 o2 o3).r V W) {v : Value} {x : FracA × FracA} (hv : TurnC V v x) (h2 : qBg V B2) (h3 : qBg V B3) : TurnC W v x := by
 refine ⟨hv.1, fun g hg => ?_⟩;obtain ⟨s1, A1, n1, c1, B1, m1, d1, s2, A2, n2, c2, C2, m2, d2, rfl, ⟨a1, a2, e1, e2, e3⟩, ⟨b1, b2, f1, f2, f3⟩⟩ := hv.2 g hg;exact TurnL.mk ⟨a1, a2, e1, twoRel.num h e2 h2 h3, twoRel.num h e3 h2 h3⟩ ⟨b1, b2, f1, twoRel.num h f2 h2 h3, twoRel.num h f3 h2 h3⟩
theorem qJL {R : WRel} {P : Program} {ops : Array Oper} {dsts : List (Option Tmp)} {Φs : List (MPredR R)} {PΦ : List PanicEntry → World → Prop} {a0 : Act} {w : World} {o : Oper} {d : List Nat} {i : Nat} (hw0 : ∀ (x : Nat → Value) (W : World), qBO Φs x W d → Region.wanted o (yielded ops (fA0 dsts x d a0).tmps) = false)
  (h : ∀ W, (Φs.getD i MPredR.any).p undef W) : qCq P ops a0 w dsts Φs PΦ d i o := by
 intro x W hR hf;rw [if_neg (by rw [hw0 x W hf]; simp)];exact h W
theorem qHc (x : FracA) : (∃ r, x.rat? = some r) ∨ x.rat? = none := by
 cases h : x.rat? with
 | none => exact .inr rfl
 | some r => exact .inl ⟨r, rfl⟩
theorem qCK (x : FracA × FracA) : (∃ g, tval x = some g) ∨ tval x = none := by
 cases h : tval x with
 | none => exact .inr rfl
 | some r => exact .inl ⟨r, rfl⟩
end Go.Proofs.YtabfaobakmjiaaaGreat
