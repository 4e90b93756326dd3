/- reference 1: big, Great, SameWhole, SameFrac. reference 1: both. reference 1: what is said of results; CheckFrac, FromInt, Ratio, Compare, Add, Mul, Div. What .. -/
import Derived.Test.YtabfaobakmjiaaaGreatPk20
namespace Go.Proofs.YtabfaobakmjiaaaGreat
set_option maxRecDepth 100000
set_option maxHeartbeats 4000000
open Go.RowKit Go.Shelf
set_option linter.unusedVariables false
set_option linter.unusedSimpArgs false
def bigB (n m : Nat) : Bool := (decide (m < n) && decide (n ≤ 40)) || decide (42 < n)
theorem qI3 (n m : Nat) (w : World) (hn : (n : Int) ≤ 9223372036854775807) (hm : (m : Int) ≤ 1000) :
  Calls Tryz.prog 112 #[.int .i64 n, .int .i64 m] w fun e w' => e = .returned (.bool (bigB n m)) ∧ w = w' := by
 unfold bigB
 by_cases h1 : m < n
 ·by_cases h2 : n ≤ 40
  ·have d1 : (decide (m < n) && decide (n ≤ 40) || decide (42 < n)) = true := by simp [h1, h2]
   rw [d1];clear d1;have i1 : (m : Int) < (n : Int) := by omega
   have i2 : (n : Int) ≤ 40 := by omega
   go_enter Tryz.func112, Tryz.ntmps112;go_wp2;go_ret;exact ⟨rfl, rfl⟩
  ·by_cases h3 : 42 < n
   ·have d1 : (decide (m < n) && decide (n ≤ 40) || decide (42 < n)) = true := by simp [h3]
    rw [d1];clear d1;have i1 : (m : Int) < (n : Int) := by omega
    have i2 : ¬ (n : Int) ≤ 40 := by omega
    have i3 : 42 < (n : Int) := by omega
    go_enter Tryz.func112, Tryz.ntmps112;go_wp2;go_ret;exact ⟨rfl, rfl⟩
   ·have d1 : (decide (m < n) && decide (n ≤ 40) || decide (42 < n)) = false := by simp [h2, h3]
    rw [d1];clear d1;have i1 : (m : Int) < (n : Int) := by omega
    have i2 : ¬ (n : Int) ≤ 40 := by omega
    have i3 : ¬ 42 < (n : Int) := by omega
    go_enter Tryz.func112, Tryz.ntmps112;go_wp2;go_ret;exact ⟨rfl, rfl⟩
 ·by_cases h3 : 42 < n
  ·have d1 : (decide (m < n) && decide (n ≤ 40) || decide (42 < n)) = true := by simp [h3]
   rw [d1];clear d1;have i1 : ¬ (m : Int) < (n : Int) := by omega
   have i3 : 42 < (n : Int) := by omega
   go_enter Tryz.func112, Tryz.ntmps112;go_wp2;go_ret;exact ⟨rfl, rfl⟩
  ·have d1 : (decide (m < n) && decide (n ≤ 40) || decide (42 < n)) = false := by simp [h1, h3]
   rw [d1];clear d1;have i1 : ¬ (m : Int) < (n : Int) := by omega
   have i3 : ¬ 42 < (n : Int) := by omega
   go_enter Tryz.func112, Tryz.ntmps112;go_wp2;go_ret;exact ⟨rfl, rfl⟩
def qDQ (x : FracA) (m : Nat) : Bool := bigB x.gn.length m || bigB x.gd.length m
theorem ArrL.lenB {α : Type} {L : Nat → Prop} {f : α → Value} {w : World} {v : Value} {xs : List α} (h : ArrL L f w v xs) : (xs.length : Int) ≤ 9223372036854775807 := by
 obtain ⟨A, c, hv, h1, h2, -⟩ := h;unfold maxLen at h2;omega
theorem qGS (L : Nat → Prop) (x : FracA) (m : Nat) (v : Value) (w : World) (hm : (m : Int) ≤ 1000) (h : IsFracA L w v x) :
  Calls Tryz.prog 58 #[v, .int .i64 m] w fun e w' => e = .returned (.bool (qDQ x m)) ∧ Le w w' := by
 obtain ⟨A, c, B, d, rfl, h1, h2⟩ := h;have l1 := h1.lenB;have l2 := h2.lenB;have k1 := fun W => qI3 x.gn.length m W l1 hm;have k2 := fun W => qI3 x.gd.length m W l2 hm;obtain ⟨b1, hb1⟩ : ∃ b1, bigB x.gn.length m = b1 := ⟨_, rfl⟩;obtain ⟨b2, hb2⟩ : ∃ b2, bigB x.gd.length m = b2 := ⟨_, rfl⟩;have hg : qDQ x m = (b1 || b2) := by unfold qDQ; rw [hb1, hb2]
 rw [hb1] at k1;rw [hb2] at k2;rw [hg];have hle := qAA w (.cells #[.bool x.sn, .slice A x.gn.length c, .bool x.sd, .slice B x.gd.length d] 76);have ⟨h1', h2', k1', k2', hb1', hb2', hg', hle'⟩ := hyd8 h1 h2 k1 k2 hb1 hb2 hg hle;clear hle hg hb2 hb1 k2 k1 h2 h1
 cases b1
 ·go_enter Tryz.func58, Tryz.ntmps58;go_wp2_with (fail);go_at_call 112;refine (k1'.out _).mono ?_;rintro e w' ⟨rfl, rfl⟩;go_wp2_with (fail);go_at_call 112;refine (k2'.out _).mono ?_;rintro e w' ⟨rfl, rfl⟩;go_wp2;go_ret;exact ⟨by simp, hle'.out⟩
 ·go_enter Tryz.func58, Tryz.ntmps58;go_wp2_with (fail);go_at_call 112;refine (k1'.out _).mono ?_;rintro e w' ⟨rfl, rfl⟩;go_wp2;go_ret;exact ⟨by simp, hle'.out⟩
theorem qGz (w : World) (o0 o1 o2 o3 : Obj) : ∃ W0, (((w.alloc o0).alloc o1).alloc o2).alloc o3 = W0 ∧ W0.heap.size = w.heap.size + 4 ∧ Le w W0 ∧ W0.heap[w.heap.size]? = some o0 ∧ W0.heap[w.heap.size + 1]? = some o1 ∧ W0.heap[w.heap.size + 1 + 1]? = some o2 ∧ W0.heap[w.heap.size + 1 + 1 + 1]? = some o3 := by
 obtain ⟨W1, hW1, hs1, hle1, k0, k1, k2⟩ := qAy w o0 o1 o2;rw [hW1];refine ⟨_, rfl, by rw [World.size_alloc]; omega, hle1.trans (qAA _ _), ?_, ?_, ?_, ?_⟩
 ·exact ((qAA W1 o3).block _ (by omega)).trans k0
 ·exact ((qAA W1 o3).block _ (by omega)).trans k1
 ·exact ((qAA W1 o3).block _ (by omega)).trans k2
 ·have : w.heap.size + 1 + 1 + 1 = W1.heap.size := by omega
  rw [this]; unfold World.alloc; exact Array.getElem?_push_size
def qIA (v : Value) : Prop := ∃ s A n c B m d, v = .agg #[.bool s, .slice A n c, .slice B m d]
theorem RatL.qform {L : Nat → Prop} {k : IntKind} {w : World} {v : Value} {r : Rat} (h : RatL L k w v r) : qIA v := by
 obtain ⟨A1, c1, A2, c2, rfl, -, -⟩ := h.form;exact ⟨_, _, _, _, _, _, _, rfl⟩
noncomputable def okAF (x : FracA) : Bool := x.rat?.isSome
def qI4 (L : Nat → Prop) (x y : FracA) (w : World) (e : Ending) (w' : World) : Prop := Le w w' ∧ ∃ vx vy, e = .returned (.tuple #[vx, vy, .bool (okAF x && okAF y)]) ∧ qIA vx ∧ qIA vy ∧ (∀ r, x.rat? = some r → RatL L .i64 w' vx r) ∧ (∀ r, y.rat? = some r → RatL L .i64 w' vy r)
theorem InPost.res {L : Nat → Prop} {x : FracA} {w : World} {e : Ending} {w' : World} (h : InPost L x w e w') : Le w w' ∧ ∃ v, e = .returned (.tuple #[v, .bool (okAF x)]) ∧ qIA v ∧ ∀ r, x.rat? = some r → RatL L .i64 w' v r := by
 obtain ⟨hle, ⟨r, hr, v, rfl, hv⟩ | ⟨hr, rfl⟩⟩ := h
 ·refine ⟨hle, v, by unfold okAF; rw [hr]; rfl, hv.qform, fun r' hr' => ?_⟩;rw [hr] at hr';injection hr' with hr';subst hr';exact hv
 ·exact ⟨hle, qC8, by unfold okAF; rw [hr]; rfl, ⟨_, _, _, _, _, _, _, rfl⟩, fun r' hr' => by rw [hr] at hr'; cases hr'⟩
theorem RatL.box3 {L : Nat → Prop} {k : IntKind} {W : World} {v u0 u1 u2 : Value} {b0 : Bool} {A1 A2 : Option Addr} {n1 c1 n2 c2 B : Nat} {r : Rat} {t : TypeId} (h : RatL L k W v r) (hk : W.heap[B]? = some (Obj.cells #[.bool b0, .slice A1 n1 c1, .slice A2 n2 c2] t)) :
  RatL L k (((W.setCell ⟨B, 0, none⟩ u0).setCell ⟨B, 1, none⟩ u1).setCell ⟨B, 2, none⟩ u2) v r := by
 obtain ⟨vn, vd, e, h1, h2⟩ := h;exact ⟨vn, vd, e, h1.box3 hk, h2.box3 hk⟩
theorem qKe (L L2 : Nat → Prop) (x y : FracA) (va vb : Value) (w : World) (hL : Up w L) (h1 : IsFracA L2 w va x) (h2 : IsFracA L2 w vb y) :
  Calls Tryz.prog 163 #[va, vb] w (qI4 L x y w) := by
 have hx0 := h1;have hy0 := h2;obtain ⟨A, c, B, d, rfl, p1, p2⟩ := h1;obtain ⟨A2, c2, B2, d2, rfl, q1, q2⟩ := h2;obtain ⟨W0, hW0, hsz, hle, k0, k1, k2, k3⟩ := qGz w (.cells #[.bool x.sn, .slice A x.gn.length c, .bool x.sd, .slice B x.gd.length d] 76) (.cells #[.bool y.sn, .slice A2 y.gn.length c2, .bool y.sd, .slice B2 y.gd.length d2] 76) (.cells #[.bool false, .slice none 0 0, .slice none 0 0] 200) (.cells #[.bool false, .slice none 0 0, .slice none 0 0] 200);have r1 := qGy L L2 x _ W0 (hL.le hle) (hx0.le hle);obtain ⟨z0, z1, z2, z3⟩ := qA3 k0;have ⟨hL', hx0', hy0', p1', p2', q1', q2', hle'⟩ := hyd8 hL hx0 hy0 p1 p2 q1 q2 hle;have ⟨k0', k1', k2', k3', r1'⟩ := hyd5 k0 k1 k2 k3 r1;clear r1 k3 k2 k1 k0 hle q2 q1 p2 p1 hy0 hx0 hL;go_enter Tryz.func163, Tryz.ntmps163;go_wp2_with (fail);clear hW0;go_at_call 173;refine r1'.out.mono ?_;rintro e W1 hin;obtain ⟨hle1, v1, rfl, ⟨s1, Q1, n1, e1, Q2, n2, e2, rfl⟩, hr1⟩ := hin.res;obtain ⟨b1, hb1⟩ : ∃ b1, okAF x = b1 := ⟨_, rfl⟩;rw [hb1];clear z0 z1 z2 z3 hin;obtain ⟨W2, hW2, hle2, kx⟩ := al1 W1 (.cells #[.bool s1, .slice Q1 n1 e1, .slice Q2 n2 e2] 200);have hl2 := hle1.trans hle2;have k1b := (hl2.block _ (by omega)).trans k1'.out;have k2b := (hl2.block _ (by omega)).trans k2'.out;have k3b := (hl2.block _ (by omega)).trans k3'.out;have r2 := qGy L L2 y _ W2 (hL'.out.le (hle'.out.trans hl2)) (hy0'.out.le (hle'.out.trans hl2));obtain ⟨y0, y1, y2, y3⟩ := qA3 k1b;have hsz1 := hle1.size;have ⟨hle1', hr1', hb1', hle2', kx', hl2', k1b', k2b'⟩ := hyd8 hle1 hr1 hb1 hle2 kx hl2 k1b k2b
 have ⟨k3b', r2'⟩ := hyd2 k3b r2;clear r2 k3b k2b k1b hl2 kx hle2 hb1 hr1 hle1;go_wp2_with (fail);clear hW2;go_at_call 173;refine r2'.out.mono ?_;rintro e W3 hin;obtain ⟨hle3, v2, rfl, ⟨s2, Q3, n3, e3, Q4, n4, e4, rfl⟩, hr2⟩ := hin.res;obtain ⟨b2, hb2⟩ : ∃ b2, okAF y = b2 := ⟨_, rfl⟩;rw [hb2];clear y0 y1 y2 y3 hin;obtain ⟨W4, hW4, hle4, ky⟩ := al1 W3 (.cells #[.bool s2, .slice Q3 n3 e3, .slice Q4 n4 e4] 200);have hl4 := hle3.trans hle4;have k2c := (hl4.block _ (by have := hle2'.out.size; omega)).trans k2b'.out;have k3c := (hl4.block _ (by have := hle2'.out.size; omega)).trans k3b'.out;have kx4 := (hl4.block _ (gsl kx'.out)).trans kx'.out;obtain ⟨x0, x1, x2, -⟩ := qAD kx4;obtain ⟨y0, y1, y2, -⟩ := qAD ky;obtain ⟨z0, z1, z2, f0, f1, f2⟩ := qAD k2c;obtain ⟨u0, u1, u2, g0, g1, g2⟩ := qAD k3c;have hall := hle'.out.trans (hl2'.out.trans hl4);have ⟨hle3', hr2', hb2', hle4', ky', hl4', k2c', k3c'⟩ := hyd8 hle3 hr2 hb2 hle4 ky hl4 k2c k3c;have ⟨kx4', hall'⟩ := hyd2 kx4 hall;clear hall kx4 k3c k2c hl4 ky hle4 hb2 hr2 hle3;go_wp2_with (fail);clear hW4;have s12 := hle2'.out.size;have s3 := hle3'.out.size;have m1 : ¬ W3.heap.size = w.heap.size + 1 + 1 := by omega
 have m2 : ¬ W3.heap.size = w.heap.size + 1 + 1 + 1 := by omega
 have m3 : ¬ w.heap.size + 1 + 1 = W3.heap.size := by omega
 have m4 : ¬ w.heap.size + 1 + 1 + 1 = W3.heap.size := by omega
 have m5 : ¬ W1.heap.size = w.heap.size + 1 + 1 := by omega
 have m6 : ¬ W1.heap.size = w.heap.size + 1 + 1 + 1 := by omega
 have m7 : ¬ w.heap.size + 1 + 1 = W1.heap.size := by omega
 have m8 : ¬ w.heap.size + 1 + 1 + 1 = W1.heap.size := by omega
 obtain ⟨V, hV, hleV, kV2, kV3, hrV1, hrV2⟩ : ∃ V, ((((((W4.setCell ⟨w.heap.size + 1 + 1, 0, none⟩ (.bool s1)).setCell ⟨w.heap.size + 1 + 1, 1, none⟩ (.slice Q1 n1 e1)).setCell ⟨w.heap.size + 1 + 1, 2, none⟩ (.slice Q2 n2 e2)).setCell ⟨w.heap.size + 1 + 1 + 1, 0, none⟩ (.bool s2)).setCell ⟨w.heap.size + 1 + 1 + 1, 1, none⟩ (.slice Q3 n3 e3)).setCell ⟨w.heap.size + 1 + 1 + 1, 2, none⟩ (.slice Q4 n4 e4)).drew = V ∧ Le w V ∧ V.heap[w.heap.size + 1 + 1]? = some (.cells #[.bool s1, .slice Q1 n1 e1, .slice Q2 n2 e2] 200) ∧ V.heap[w.heap.size + 1 + 1 + 1]? = some (.cells #[.bool s2, .slice Q3 n3 e3, .slice Q4 n4 e4] 200) ∧
   (∀ r, x.rat? = some r → RatL L .i64 V (.agg #[.bool s1, .slice Q1 n1 e1, .slice Q2 n2 e2]) r) ∧ (∀ r, y.rat? = some r → RatL L .i64 V (.agg #[.bool s2, .slice Q3 n3 e3, .slice Q4 n4 e4]) r) := by
  have j1 := qA0 (u0 := .bool s1) (u1 := .slice Q1 n1 e1) (u2 := .slice Q2 n2 e2) k2c'.out;have j2 := (Below.heap_setCell ((W4.setCell ⟨w.heap.size + 1 + 1, 0, none⟩ (.bool s1)).setCell ⟨w.heap.size + 1 + 1, 1, none⟩ (.slice Q1 n1 e1)) ⟨w.heap.size + 1 + 1, 2, none⟩ (.slice Q2 n2 e2) (w.heap.size + 1 + 1 + 1) (show w.heap.size + 1 + 1 + 1 ≠ w.heap.size + 1 + 1 by omega)).trans ((Below.heap_setCell (W4.setCell ⟨w.heap.size + 1 + 1, 0, none⟩ (.bool s1)) ⟨w.heap.size + 1 + 1, 1, none⟩ (.slice Q1 n1 e1) (w.heap.size + 1 + 1 + 1) (show w.heap.size + 1 + 1 + 1 ≠ w.heap.size + 1 + 1 by omega)).trans ((Below.heap_setCell W4 ⟨w.heap.size + 1 + 1, 0, none⟩ (.bool s1) (w.heap.size + 1 + 1 + 1) (show w.heap.size + 1 + 1 + 1 ≠ w.heap.size + 1 + 1 by omega)).trans k3c'.out));have hle5 := qAg (u0 := .bool s1) (u1 := .slice Q1 n1 e1) (u2 := .slice Q2 n2 e2) hall'.out (show w.heap.size ≤ w.heap.size + 1 + 1 by omega);have hrA : ∀ r, x.rat? = some r → RatL L .i64 _ (.agg #[.bool s1, .slice Q1 n1 e1, .slice Q2 n2 e2]) r := fun r hr => RatL.box3 (u0 := .bool s1) (u1 := .slice Q1 n1 e1) (u2 := .slice Q2 n2 e2) ((hr1'.out r hr).le (hle2'.out.trans hl4'.out)) k2c'.out;have hrB : ∀ r, y.rat? = some r → RatL L .i64 _ (.agg #[.bool s2, .slice Q3 n3 e3, .slice Q4 n4 e4]) r := fun r hr => RatL.box3 (u0 := .bool s1) (u1 := .slice Q1 n1 e1) (u2 := .slice Q2 n2 e2) ((hr2'.out r hr).le hle4'.out) k2c'.out;generalize ((W4.setCell ⟨w.heap.size + 1 + 1, 0, none⟩ (.bool s1)).setCell ⟨w.heap.size + 1 + 1, 1, none⟩ (.slice Q1 n1 e1)).setCell ⟨w.heap.size + 1 + 1, 2, none⟩ (.slice Q2 n2 e2) = V1 at *
  have j3 := qA0 (u0 := .bool s2) (u1 := .slice Q3 n3 e3) (u2 := .slice Q4 n4 e4) j2;have hle6 := qAg (u0 := .bool s2) (u1 := .slice Q3 n3 e3) (u2 := .slice Q4 n4 e4) hle5 (show w.heap.size ≤ w.heap.size + 1 + 1 + 1 by omega);have j4 := (Below.heap_setCell ((V1.setCell ⟨w.heap.size + 1 + 1 + 1, 0, none⟩ (.bool s2)).setCell ⟨w.heap.size + 1 + 1 + 1, 1, none⟩ (.slice Q3 n3 e3)) ⟨w.heap.size + 1 + 1 + 1, 2, none⟩ (.slice Q4 n4 e4) (w.heap.size + 1 + 1) (show w.heap.size + 1 + 1 ≠ w.heap.size + 1 + 1 + 1 by omega)).trans ((Below.heap_setCell (V1.setCell ⟨w.heap.size + 1 + 1 + 1, 0, none⟩ (.bool s2)) ⟨w.heap.size + 1 + 1 + 1, 1, none⟩ (.slice Q3 n3 e3) (w.heap.size + 1 + 1) (show w.heap.size + 1 + 1 ≠ w.heap.size + 1 + 1 + 1 by omega)).trans ((Below.heap_setCell V1 ⟨w.heap.size + 1 + 1 + 1, 0, none⟩ (.bool s2) (w.heap.size + 1 + 1) (show w.heap.size + 1 + 1 ≠ w.heap.size + 1 + 1 + 1 by omega)).trans j1));refine ⟨_, rfl, hle6.trans Le.drew, j4, j3, fun r hr => ?_, fun r hr => ?_⟩
  ·exact (RatL.box3 (u0 := .bool s2) (u1 := .slice Q3 n3 e3) (u2 := .slice Q4 n4 e4) (hrA r hr) j2).le Le.drew
  ·exact (RatL.box3 (u0 := .bool s2) (u1 := .slice Q3 n3 e3) (u2 := .slice Q4 n4 e4) (hrB r hr) j2).le Le.drew
 obtain ⟨d0, d1, d2, -⟩ := qAD kV2;obtain ⟨d3, d4, d5, -⟩ := qAD kV3;have ⟨hV', hleV', kV2', kV3', hrV1', hrV2'⟩ := hyd6 hV hleV kV2 kV3 hrV1 hrV2;clear hrV2 hrV1 kV3 kV2 hleV hV
 cases b1
 all_goals
  go_region;rw [hV'.out];clear x0 x1 x2 y0 y1 y2 z0 z1 z2 f0 f1 f2 u0 u1 u2 g0 g1 g2;go_wp2
 ·exact bodyPost_ret (v := .tuple #[.agg #[.bool s1, .slice Q1 n1 e1, .slice Q2 n2 e2], .agg #[.bool s2, .slice Q3 n3 e3, .slice Q4 n4 e4], .bool false]) (by simp [results, Tryz.results163, go_sem, d0, d1, d2, d3, d4, d5]) rfl ⟨hleV'.out, _, _, by rw [hb1'.out, Bool.false_and], ⟨_, _, _, _, _, _, _, rfl⟩, ⟨_, _, _, _, _, _, _, rfl⟩, hrV1'.out, hrV2'.out⟩
 ·exact bodyPost_ret (v := .tuple #[.agg #[.bool s1, .slice Q1 n1 e1, .slice Q2 n2 e2], .agg #[.bool s2, .slice Q3 n3 e3, .slice Q4 n4 e4], .bool b2]) (by simp [results, Tryz.results163, go_sem, d0, d1, d2, d3, d4, d5]) rfl ⟨hleV'.out, _, _, by rw [hb1'.out, hb2'.out, Bool.true_and], ⟨_, _, _, _, _, _, _, rfl⟩, ⟨_, _, _, _, _, _, _, rfl⟩, hrV1'.out, hrV2'.out⟩
open Classical in
noncomputable def outR (r : Rat) : Except Int Rat := if Rsz r 40 then .ok r else .error 12
noncomputable def okE (b : Bool) : Int := if b then 0 else 10
def qMS (v : Value) : Prop := ∃ s A n c s' B m d, v = .agg #[.bool s, .slice A n c, .bool s', .slice B m d]
theorem FracL.box4 {L : Nat → Prop} {W : World} {v u0 u1 u2 u3 : Value} {b0 b1 : Bool} {A1 A2 : Option Addr} {n1 c1 n2 c2 B : Nat} {r : Rat} {t : TypeId} (h : FracL L W v r) (hk : W.heap[B]? = some (Obj.cells #[.bool b0, .slice A1 n1 c1, .bool b1, .slice A2 n2 c2] t)) :
  FracL L ((((W.setCell ⟨B, 0, none⟩ u0).setCell ⟨B, 1, none⟩ u1).setCell ⟨B, 2, none⟩ u2).setCell ⟨B, 3, none⟩ u3) v r := by
 obtain ⟨A, c, B', d, e, h1, h2⟩ := h;exact ⟨A, c, B', d, e, h1.box4 hk, h2.box4 hk⟩
theorem FracA.sz {x : FracA} {r : Rat} (h : x.rat? = some r) : Rsz r 40 := (FracA.val h).sz
theorem Rsz.up {r : Rat} {m n : Nat} (h : Rsz r m) (hmn : m ≤ n) : Rsz r n := ⟨Nat.le_trans h.1 hmn, Nat.le_trans h.2 hmn⟩
theorem qDG (L : Nat → Prop) (z : Int) (w : World) (hL : Up w L) (hz0 : -9223372036854775808 ≤ z) (hz1 : z ≤ 9223372036854775807) :
  Calls Tryz.prog 63 #[.int .i64 z] w fun e w' => ∃ v, e = .returned v ∧ Le w w' ∧ FracL L w' v (z : Rat) := by
 have hszr : Rsz (z : Rat) 40 := ⟨Nat.le_trans (qBp (N := z.natAbs) (by omega)) (by decide), by rw [show (z : Rat).den = 1 from rfl, qCg]; simp⟩;have ⟨hL', hszr'⟩ := hyd2 hL hszr;clear hszr hL;go_enter Tryz.func63, Tryz.ntmps63;go_wp2_with (fail);go_at_call 116;refine (qDx L z _ (hL'.out.le (qAA _ _)) hz0 hz1).mono ?_;rintro e W1 ⟨v1, rfl, hle1, hr⟩;obtain ⟨hle1, hbx⟩ := qBZ hle1;have hr0 := hr;obtain ⟨A1, c1, A2, c2, rfl, -, -⟩ := hr.form;have hU1 := hL'.out.le hle1;have ⟨hle1', hr', hr0', hbx', hU1'⟩ := hyd5 hle1 hr hr0 hbx hU1;clear hU1 hbx hr0 hr hle1;go_wp2_with (fail);go_at_call 115;refine (qFk L L (z : Rat) _ W1 hU1'.out hr0'.out).mono ?_;rintro e W2 hout;obtain ⟨hle2, ⟨-, v2, rfl, hv⟩ | ⟨hs, -⟩⟩ := hout
 ·have hv0 := hv;obtain ⟨A3, c3, A4, c4, rfl, -, -⟩ := hv;obtain ⟨W3, hW3, hle3, kx⟩ := al1 W2 (.cells #[.bool (rneg (z : Rat)), .slice A3 (dg (rnum (z : Rat))).length c3, .bool false, .slice A4 (dg (z : Rat).den).length c4] 76);have hv3 := hv0.le hle3;have hbx3 := ((hle2.trans hle3).block _ (gsl hbx'.out)).trans hbx'.out;have hle9 := fun u0 u1 u2 u3 => qET (u0 := u0) (u1 := u1) (u2 := u2) (u3 := u3) (hle1'.out.trans (hle2.trans hle3)) (Nat.le_refl _);have hb9 := fun u0 u1 u2 u3 => qA3 (qD3 (u0 := u0) (u1 := u1) (u2 := u2) (u3 := u3) hbx3);have hfin := fun u0 u1 u2 u3 => FracL.box4 (u0 := u0) (u1 := u1) (u2 := u2) (u3 := u3) hv3 hbx3;obtain ⟨x0, x1, x2, x3⟩ := qA3 kx;obtain ⟨z0, z1, z2, z3⟩ := qA3 hbx3;have ⟨g0, g1, g2, g3⟩ := frz4 hbx3;obtain ⟨sr, hsr⟩ : ∃ sr, rneg (z : Rat) = sr := ⟨_, rfl⟩;obtain ⟨l1, hl1⟩ : ∃ l1, (dg (rnum (z : Rat))).length = l1 := ⟨_, rfl⟩;obtain ⟨l2, hl2⟩ : ∃ l2, (dg (z : Rat).den).length = l2 := ⟨_, rfl⟩;rw [hsr] at x0;rw [hl1] at x1;rw [hl2] at x3;rw [hsr, hl1, hl2] at hfin hW3 ⊢;have ⟨hle2', hv0', hv3', hle3', kx', hbx3', hle9', hb9'⟩ := hyd8 hle2 hv0 hv3 hle3 kx hbx3 hle9 hb9;have ⟨hfin', hsr', hl1', hl2'⟩ := hyd4 hfin hsr hl1 hl2;clear hl2 hl1 hsr hfin hb9 hle9 hbx3 kx hle3 hv3 hv0 hle2;go_wp2;obtain ⟨d0, d1, d2, d3⟩ := hb9'.out (.bool sr) (.slice A3 l1 c3) (.bool false) (.slice A4 l2 c4);exact bodyPost_ret (v := .agg #[.bool sr, .slice A3 l1 c3, .bool false, .slice A4 l2 c4]) (by simp [results, Tryz.results63, go_sem, d0, d1, d2, d3]) rfl ⟨_, rfl, hle9'.out _ _ _ _, hfin'.out _ _ _ _⟩
 ·exact absurd hszr'.out hs
end Go.Proofs.YtabfaobakmjiaaaGreat
namespace Go.Proofs.YtabfaobakmjiaaaGreat
set_option maxRecDepth 100000
set_option maxHeartbeats 4000000
open Go.RowKit Go.Shelf
set_option linter.unusedVariables false
set_option linter.unusedSimpArgs false
noncomputable def qGT (r : Rat) : FracA := ⟨rneg r, dg (rnum r), false, dg r.den⟩
def qJt : FracA := ⟨false, [], false, []⟩
theorem FracL.isA {L : Nat → Prop} {w : World} {v : Value} {r : Rat} (h : FracL L w v r) : IsFracA L w v (qGT r) := by
 obtain ⟨A, c, B, d, rfl, h1, h2⟩ := h;exact ⟨A, c, B, d, rfl, h1.1, h2.1⟩
theorem qH3 (L : Nat → Prop) (w : World) : IsFracA L w (.agg #[.bool false, .slice none 0 0, .bool false, .slice none 0 0]) qJt :=
 ⟨none, 0, none, 0, rfl, ⟨none, 0, rfl, Nat.le_refl _, by decide, by decide, fun h => absurd h (Nat.lt_irrefl 0)⟩, ⟨none, 0, rfl, Nat.le_refl _, by decide, by decide, fun h => absurd h (Nat.lt_irrefl 0)⟩⟩
theorem qH4 {neg : Bool} {n : Nat} (h : (dg n).length ≤ 40) (hz : n = 0 → neg = false) : isW neg (dg n) = true := by
 unfold isW
 have hany : ((dg n).any fun g => decide (1000000000 ≤ g)) = false := by
  rw [List.any_eq_false];intro x hx;have := qAW n x hx;rw [qAS] at this
  simp; omega
 rw [hany, decide_eq_true h]
 by_cases h0 : (dg n).length = 0
 ·have hn : n = 0 := by rw [← qA4 n, List.eq_nil_of_length_eq_zero h0]; rfl
  rw [if_pos h0, hz hn]
  rfl
 ·rw [if_neg h0];have := qDT (n := n) (by omega);rw [qA7 (by omega)]
  simp; omega
theorem qH5 {r : Rat} (h : Rsz r 40) : (qGT r).rat? = some r := by
 have h1 : isW (rneg r) (dg (rnum r)) = true := qH4 h.1 qJf;have h2 : isW false (dg r.den) = true := qH4 h.2 fun _ => rfl
 have h3 : (dg r.den).length ≠ 0 := fun h0 => by
  have : r.den = 0 := by rw [← qA4 r.den, List.eq_nil_of_length_eq_zero h0]; rfl
  exact r.den_nz this
 unfold FracA.rat? FracA.ok qGT;simp only;rw [h1, h2, qA4, qA4];rw [if_pos ⟨by simp; omega, r.reduced⟩, qIH]
end Go.Proofs.YtabfaobakmjiaaaGreat
