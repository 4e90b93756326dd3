/- Paths: a list of arms (nine cells each: how often it turns, and four whole numbers) that came in. Paths: the values of their arms; motion's iterator over arms; .. -/
import Derived.Test.YtabfaobakmjiaaaGreatPk25
import Derived.Test.YtabfaobakmjiaaaGreatPk31
import Derived.Deep.Slices
import Derived.Deep.DrawnRows
namespace Go.Proofs.YtabfaobakmjiaaaGreat
set_option maxRecDepth 100000
set_option maxHeartbeats 4000000
open Go.RowKit Go.ChangeShapes Go.WideShapes Go.Deep
set_option linter.unusedVariables false
structure ArmA where
 k : Int
 c : FracA × FracA
instance : Inhabited ArmA := ⟨⟨0, ⟨false, [], false, []⟩, ⟨false, [], false, []⟩⟩⟩
def ArmAt (w : World) (b o : Nat) (a : ArmA) : Prop :=
 ∃ A1 c1 B1 d1 A2 c2 B2 d2, w.cell? ⟨b, o, none⟩ = some (.int .i64 a.k) ∧ w.cell? ⟨b, o + 1, none⟩ = some (.bool a.c.1.sn) ∧ w.cell? ⟨b, o + 2, none⟩ = some (.slice A1 a.c.1.gn.length c1) ∧ w.cell? ⟨b, o + 3, none⟩ = some (.bool a.c.1.sd) ∧ w.cell? ⟨b, o + 4, none⟩ = some (.slice B1 a.c.1.gd.length d1) ∧
  w.cell? ⟨b, o + 5, none⟩ = some (.bool a.c.2.sn) ∧ w.cell? ⟨b, o + 6, none⟩ = some (.slice A2 a.c.2.gn.length c2) ∧ w.cell? ⟨b, o + 7, none⟩ = some (.bool a.c.2.sd) ∧ w.cell? ⟨b, o + 8, none⟩ = some (.slice B2 a.c.2.gd.length d2) ∧
  IsFracA (fun _ => True) w (.agg #[.bool a.c.1.sn, .slice A1 a.c.1.gn.length c1, .bool a.c.1.sd, .slice B1 a.c.1.gd.length d1]) a.c.1 ∧ IsFracA (fun _ => True) w (.agg #[.bool a.c.2.sn, .slice A2 a.c.2.gn.length c2, .bool a.c.2.sd, .slice B2 a.c.2.gd.length d2]) a.c.2
def ArmsL (w : World) (v : Value) (l : List ArmA) : Prop :=
 ∃ A c, v = .slice A l.length c ∧ l.length ≤ c ∧ c ≤ maxLen ∧ (A = none → c = 0) ∧ (∀ a ∈ l, -9223372036854775808 ≤ a.k ∧ a.k ≤ 9223372036854775807) ∧
  (0 < l.length → ∃ b off, A = some ⟨b, off, none⟩ ∧ b < w.heap.size ∧ ∀ j (h : j < l.length), ArmAt w b (off + 9 * j) l[j])
theorem ArmAt.le {w W : World} {b o : Nat} {a : ArmA} (h : ArmAt w b o a) (hb : b < w.heap.size) (hle : Le w W) : ArmAt W b o a := by
 obtain ⟨A1, c1, B1, d1, A2, c2, B2, d2, h0, h1, h2, h3, h4, h5, h6, h7, h8, i1, i2⟩ := h;have up : ∀ {i : Nat} {v : Value}, w.cell? ⟨b, i, none⟩ = some v → W.cell? ⟨b, i, none⟩ = some v := fun hv => (Below.cell hle (p := ⟨b, _, none⟩) hb).trans hv;exact ⟨A1, c1, B1, d1, A2, c2, B2, d2, up h0, up h1, up h2, up h3, up h4, up h5, up h6, up h7, up h8, i1.le hle, i2.le hle⟩
theorem ArmsL.le {w W : World} {v : Value} {l : List ArmA} (h : ArmsL w v l) (hle : Le w W) : ArmsL W v l := by
 obtain ⟨A, c, hv, h1, h2, h3, h4, h5⟩ := h;refine ⟨A, c, hv, h1, h2, h3, h4, fun h0 => ?_⟩;obtain ⟨b, off, ha, hb, hc⟩ := h5 h0;exact ⟨b, off, ha, Nat.lt_of_lt_of_le hb hle.size, fun j hj => (hc j hj).le hb hle⟩
section
variable {H : Type} {enc : TypeId × Value → H} {w : World} {n : Nat}
theorem qKC {v0 v1 v2 v3 v4 v5 v6 v7 : Value} {y : DataW H × List MemPlace} (h : DataW.trod enc Tryz.prog w 0 (fun _ => true) true n 79 [v0, v1, v2, v3, v4, v5, v6, v7] = some y) :
  ∃ a b : FracA, IsFracA (fun _ => True) w (.agg #[v0, v1, v2, v3]) a ∧ IsFracA (fun _ => True) w (.agg #[v4, v5, v6, v7]) b := by
 obtain ⟨xs, m, -, -, -, hlen, hg⟩ := DataW.trod_struct Tryz.underlying79 h;obtain ⟨y0, hy0⟩ : ∃ y, xs[0]? = some y := ⟨_, List.getElem?_eq_getElem (by rw [hlen]; decide)⟩;obtain ⟨y1, hy1⟩ : ∃ y, xs[1]? = some y := ⟨_, List.getElem?_eq_getElem (by rw [hlen]; decide)⟩;have g0 := (hg 0 _ rfl).trans hy0;have g1 := (hg 1 _ rfl).trans hy1;obtain ⟨a, ha⟩ := qGW (v0 := v0) (v1 := v1) (v2 := v2) (v3 := v3) g0;obtain ⟨b, hb⟩ := qGW (v0 := v4) (v1 := v5) (v2 := v6) (v3 := v7) g1;exact ⟨a, b, ha, hb⟩
theorem qKl {b o : Nat} {cs : List Value} {y : DataW H × List MemPlace} (hlen9 : cs.length = 9) (hc : ∀ i, i < 9 → w.cell? ⟨b, o + i, none⟩ = cs[i]?)
  (h : DataW.trod enc Tryz.prog w 0 (fun _ => true) true n 81 cs = some y) : ∃ a : ArmA, ArmAt w b o a ∧ -9223372036854775808 ≤ a.k ∧ a.k ≤ 9223372036854775807 := by
 match cs, hlen9 with
 | [v0, v1, v2, v3, v4, v5, v6, v7, v8], _ =>
  obtain ⟨xs, m, -, -, -, hlen, hg⟩ := DataW.trod_struct Tryz.underlying81 h;obtain ⟨y0, hy0⟩ : ∃ y, xs[0]? = some y := ⟨_, List.getElem?_eq_getElem (by rw [hlen]; decide)⟩;obtain ⟨y1, hy1⟩ : ∃ y, xs[1]? = some y := ⟨_, List.getElem?_eq_getElem (by rw [hlen]; decide)⟩;have g0 := (hg 0 _ rfl).trans hy0;have g1 := (hg 1 _ rfl).trans hy1;obtain ⟨k, e0, -, hw⟩ := DataW.trod_int (cs := [v0]) Tryz.underlying3 g0;obtain ⟨a, a', ha, hb⟩ := qKC (v0 := v1) (v1 := v2) (v2 := v3) (v3 := v4) (v4 := v5) (v5 := v6) (v6 := v7) (v7 := v8) g1
  obtain rfl : v0 = .int .i64 k := by simpa using e0
  obtain ⟨A, c, B, d, e1, p1, p2⟩ := ha;obtain ⟨A', c', B', d', e2, q1, q2⟩ := hb;injection e1 with e1;injection e2 with e2;simp only [Array.mk.injEq, List.cons.injEq, and_true] at e1 e2;obtain ⟨a1, a2, a3, a4⟩ := e1;obtain ⟨b1, b2, b3, b4⟩ := e2;subst a1 a2 a3 a4 b1 b2 b3 b4
  have hwf : -9223372036854775808 ≤ k ∧ k ≤ 9223372036854775807 := by
   have h1 : IntKind.i64.min ≤ k ∧ k ≤ IntKind.i64.max := by simpa [Lit.wf] using hw
   have e1 : IntKind.i64.min = -9223372036854775808 := by kernel_rfl
   have e2 : IntKind.i64.max = 9223372036854775807 := by kernel_rfl
   rw [e1, e2] at h1;exact h1
  exact ⟨⟨k, a, a'⟩, ⟨A, c, B, d, A', c', B', d', hc 0 (by decide), hc 1 (by decide), hc 2 (by decide), hc 3 (by decide), hc 4 (by decide), hc 5 (by decide), hc 6 (by decide), hc 7 (by decide), hc 8 (by decide), ⟨_, _, _, _, rfl, p1, p2⟩, ⟨_, _, _, _, rfl, q1, q2⟩⟩, hwf⟩
end
end Go.Proofs.YtabfaobakmjiaaaGreat
namespace Go.Proofs.YtabfaobakmjiaaaGreat
set_option maxRecDepth 100000
set_option maxHeartbeats 4000000
open Go.RowKit Go.Shelf Go.ChangeShapes Go.WideShapes Go.Deep
set_option linter.unusedVariables false
set_option linter.unusedSimpArgs false
attribute [local go_sem] Oper.semAt_some
def ArmC (W : World) (b o : Nat) (k : Int) (t : Array Value) : Prop :=
 ∃ s1 A1 n1 c1 t1 B1 m1 d1 s2 A2 n2 c2 t2 B2 m2 d2, t = #[.bool s1, .slice A1 n1 c1, .bool t1, .slice B1 m1 d1, .bool s2, .slice A2 n2 c2, .bool t2, .slice B2 m2 d2] ∧ W.cell? ⟨b, o, none⟩ = some (.int .i64 k) ∧ W.cell? ⟨b, o + 1, none⟩ = some (.bool s1) ∧ W.cell? ⟨b, o + 2, none⟩ = some (.slice A1 n1 c1) ∧ W.cell? ⟨b, o + 3, none⟩ = some (.bool t1) ∧ W.cell? ⟨b, o + 4, none⟩ = some (.slice B1 m1 d1) ∧ W.cell? ⟨b, o + 5, none⟩ = some (.bool s2) ∧ W.cell? ⟨b, o + 6, none⟩ = some (.slice A2 n2 c2) ∧ W.cell? ⟨b, o + 7, none⟩ = some (.bool t2) ∧ W.cell? ⟨b, o + 8, none⟩ = some (.slice B2 m2 d2)
theorem ArmC.same {w W : World} {b o : Nat} {k : Int} {t : Array Value} (h : ArmC w b o k t) (hs : ∀ i, W.cell? ⟨b, i, none⟩ = w.cell? ⟨b, i, none⟩) : ArmC W b o k t := by
 obtain ⟨s1, A1, n1, c1, t1, B1, m1, d1, s2, A2, n2, c2, t2, B2, m2, d2, e, h0, h1, h2, h3, h4, h5, h6, h7, h8⟩ := h;exact ⟨s1, A1, n1, c1, t1, B1, m1, d1, s2, A2, n2, c2, t2, B2, m2, d2, e, (hs _).trans h0, (hs _).trans h1, (hs _).trans h2, (hs _).trans h3, (hs _).trans h4, (hs _).trans h5, (hs _).trans h6, (hs _).trans h7, (hs _).trans h8⟩
def qKD (w : World) (v : Value) (l : List ArmA) (tv : Nat → Array Value) : Prop :=
 ∃ A c, v = .slice A l.length c ∧ l.length ≤ c ∧ c ≤ maxLen ∧ (A = none → c = 0) ∧ (∀ a ∈ l, -9223372036854775808 ≤ a.k ∧ a.k ≤ 9223372036854775807) ∧ (∀ j (h : j < l.length), IsTurnA w (.agg (tv j)) l[j].c) ∧
  (0 < l.length → ∃ b off, A = some ⟨b, off, none⟩ ∧ b < w.heap.size ∧ ∀ j (h : j < l.length), ArmC w b (off + j * 9) l[j].k (tv j))
theorem ArmsL.vals {w : World} {v : Value} {l : List ArmA} (h : ArmsL w v l) : ∃ tv, qKD w v l tv := by
 obtain ⟨A, c, hv, h1, h2, h3, h4, h5⟩ := h
 by_cases h0 : 0 < l.length
 ·obtain ⟨b, off, hA, hb, hc⟩ := h5 h0
  have each : ∀ j, j < l.length → ∃ t : Array Value, IsTurnA w (.agg t) (l.getD j default).c ∧ ArmC w b (off + j * 9) (l.getD j default).k t := fun j hj => by
   obtain ⟨A1, c1, B1, d1, A2, c2, B2, d2, g0, g1, g2, g3, g4, g5, g6, g7, g8, i1, i2⟩ := hc j hj;have e : l.getD j default = l[j] := by simp [List.getD_eq_getElem?_getD, List.getElem?_eq_getElem hj]
   rw [e];rw [show 9 * j = j * 9 from Nat.mul_comm _ _] at g0 g1 g2 g3 g4 g5 g6 g7 g8;exact ⟨_, ⟨A1, c1, B1, d1, A2, c2, B2, d2, rfl, i1, i2⟩, _, _, _, _, _, _, _, _, _, _, _, _, _, _, _, _, rfl, g0, g1, g2, g3, g4, g5, g6, g7, g8⟩
  obtain ⟨f, hf⟩ := choose_lt each;have e : ∀ j (h : j < l.length), l.getD j default = l[j] := fun j hj => by simp [List.getD_eq_getElem?_getD, List.getElem?_eq_getElem hj]
  exact ⟨f, A, c, hv, h1, h2, h3, h4, fun j hj => by rw [← e j hj]; exact (hf j hj).1, fun _ => ⟨b, off, hA, hb, fun j hj => by rw [← e j hj]; exact (hf j hj).2⟩⟩
 ·exact ⟨fun _ => #[], A, c, hv, h1, h2, h3, h4, fun j hj => absurd hj (by omega), fun h => absurd h h0⟩
theorem Kept.alloc {n₀ : Nat} {Bs : List Nat} {W : World} (o : Obj) (h : n₀ ≤ W.heap.size) (hB : ∀ B ∈ Bs, B < W.heap.size) : Kept n₀ Bs W (W.alloc o) := ⟨(Below.refl _ _).alloc h o, fun B hb => Below.heap_alloc _ _ _ (by have := hB B hb; omega)⟩
def qG6 (l : List ArmA) (tv : Nat → Array Value) (i : Fin l.length) : Array Value := #[.int .i64 l[i.1].k, .agg (tv i.1)]
theorem qFH (l : List ArmA) (v : Value) (tv : Nat → Array Value) (w0 w : World) (Bn n₀ : Nat) (hv : qKD w0 v l tv) (hl : l.length ≤ 1000) (hBn : Bn < w.heap.size) (hn₀ : n₀ ≤ w.heap.size) (h0 : w0.heap.size ≤ n₀)
  (hb : Below w0.heap.size w0 w) (hc : w.cell? ⟨Bn, 0, none⟩ = some v) : qKY Tryz.prog 129 #[.pointer (some ⟨Bn, 0, none⟩)] l.length (qG6 l tv) n₀ [Bn] w := by
 intro la J Jx W hW hJa _ hY hJ0;have hc' := (hW.cell (p := ⟨Bn, 0, none⟩) hBn).trans hc;have hbW : Below w0.heap.size w0 W := hb.trans (hW.mono (Nat.le_trans h0 hn₀));have hWz := hW.size;obtain ⟨A, c, rfl, hlc, hcm, _, hki, _, hr⟩ := hv;unfold maxLen at hcm;have ⟨hr', hki', hJa'⟩ := hyd3 hr hki hJa;clear hr hki hJa;refine callsIn_of_wp Tryz.func129 rfl trivial ?_ rfl;simp only [Tryz.ntmps129, List.size_toArray, List.length_cons, List.length_nil, Nat.reduceAdd, Nat.reduceSub, Array.replicate_succ, Array.replicate_zero, List.push_toArray, List.append_toArray, List.nil_append, List.cons_append];gi_wp2;gi_loopw [7] (fun i wr => ∃ k : Nat, k ≤ l.length ∧ i = .int .i64 k ∧ J ((List.finRange l.length).take k) wr ∧ Kept n₀ [Bn] W wr ∧ W.heap.size ≤ wr.heap.size)
  (fun i _ => l.length - (intOf i).toNat)
 case atStart => exact ⟨0, Nat.zero_le _, rfl, hJ0, Kept.refl _ _ _, Nat.le_refl _⟩
 case round =>
  obtain ⟨k, hk, rfl, hJs, hnx, hsz⟩ := hrel
  by_cases hlt : k < l.length
  ·obtain ⟨bb, off, rfl, hbb, hcc⟩ := hr'.out (by omega);obtain ⟨s1, A1, n1, c1, t1, B1, m1, d1, s2, A2, n2, c2, t2, B2, m2, d2, he, e0, e1, e2, e3, e4, e5, e6, e7, e8⟩ := (hcc k hlt).same (W := wr) fun i => (hnx.1.cell (p := ⟨bb, i, none⟩) (by show bb < n₀; omega)).trans (hbW.cell (p := ⟨bb, i, none⟩) hbb);have hcv := (hnx.cell (B := Bn) (i := 0) (by simp)).trans hc';obtain ⟨fn, tmps, assign, body, hy, hR⟩ := hY _ ⟨k, hlt⟩ (wr.alloc (.cells #[.int .i64 l[k].k, .bool s1, .slice A1 n1 c1, .bool t1, .slice B1 m1 d1, .bool s2, .slice A2 n2 c2, .bool t2, .slice B2 m2 d2] 81)) (hJa'.out _ _ _ none hJs (World.grownBy_alloc _ _ _) (by simp)) (by simp; omega);dsimp only [qG6] at hy;rw [he] at hy;have hkept : Kept n₀ [Bn] W (wr.alloc (.cells #[.int .i64 l[k].k, .bool s1, .slice A1 n1 c1, .bool t1, .slice B1 m1 d1, .bool s2, .slice A2 n2 c2, .bool t2, .slice B2 m2 d2] 81)) := hnx.trans (Kept.alloc _ (by omega) (by simp; omega));generalize l[k].k = kk at e0 hy hR hkept;clear hcc he;have hkept' := hyd1 hkept;clear hkept;gi_wp2;refine hR.mono ?_;rintro e W3 (⟨rfl, hJ3, hk3⟩ | ⟨rfl, hJx3⟩)
   ·have hz3 := hk3.1.size;rw [World.size_alloc] at hz3;gi_wp2;go_roundw
    case rel => exact ⟨k + 1, by omega, by go_num, by rw [qBV k hlt]; exact hJ3, hkept'.out.trans hk3, by omega⟩
    case measure => simp [intOf]; omega
   ·gi_wp2;refine bodyPost_ret (results_none rfl _ _ _) rfl ?_;exact ⟨⟨_, rfl⟩, .inr ⟨_, ⟨_, by rw [← qBV k hlt]; exact List.take_append_drop _ _⟩, hJx3⟩⟩
  ·obtain rfl : k = l.length := by omega
   gi_wp2;go_end0;exact ⟨⟨_, rfl⟩, .inl ⟨_, List.take_of_length_le (by simp), hJs⟩⟩
theorem qJ3 (A : Option Addr) (n c : Nat) (w : World) :
  Calls Tryz.prog 74 #[.slice A n c] w fun e w' => e = .returned (.func (.func 129) #[] #[.pointer (some ⟨w.heap.size, 0, none⟩)]) ∧ w.alloc (.cells #[.slice A n c] 25) = w' := by
 have hmf : ∀ (fn : Fn) (first cap : Array Value) (w : World), (Instr.makeFunc fn first cap).run Tryz.prog w = .ok (.func fn first cap) w := fun _ _ _ _ => rfl;go_enter Tryz.func74, Tryz.ntmps74;go_wp2;go_ret;exact ⟨rfl, rfl⟩
theorem qF4 (x : FracA) (v : Value) (w : World) (h : IsFracA (fun _ => True) w v x) :
  Calls Tryz.prog 132 #[v] w fun e w' => e = .returned (.bool (decide (x.gn.length = 0))) ∧ Le w w' := by
 obtain ⟨A, c, B, d, rfl, h1, h2⟩ := h;have ⟨h1', h2'⟩ := hyd2 h1 h2;clear h2 h1
 by_cases h0 : x.gn.length = 0
 ·have e1 : decide (x.gn.length = 0) = true := by simpa using h0
  rw [e1];rw [h0];have ⟨h0', e1'⟩ := hyd2 h0 e1;clear e1 h0;go_enter Tryz.func132, Tryz.ntmps132;go_wp2;go_ret;exact ⟨rfl, qAA _ _⟩
 ·have e1 : decide (x.gn.length = 0) = false := by simpa using h0
  have e2 : ((x.gn.length : Int) == 0) = false := by rw [Bool.eq_false_iff]; intro h; simp at h; exact h0 (by simp [h])
  rw [e1];generalize x.gn.length = N at h0 e2 ⊢;have ⟨h0', e1'⟩ := hyd2 h0 e1;clear e1 h0;go_enter Tryz.func132, Tryz.ntmps132;go_wp2;go_ret;exact ⟨rfl, qAA _ _⟩
def qIC (x : FracA × FracA) : Bool := decide (x.1.gn.length = 0) && decide (x.2.gn.length = 0)
theorem qKm (x : FracA × FracA) (v : Value) (w : World) (h : IsTurnA w v x) :
  Calls Tryz.prog 76 #[v] w fun e w' => e = .returned (.bool (qIC x)) ∧ Le w w' := by
 obtain ⟨A1, c1, B1, d1, A2, c2, B2, d2, rfl, h1, h2⟩ := h;obtain ⟨W0, hW0, hle, k0⟩ := al1 w (.cells #[.bool x.1.sn, .slice A1 x.1.gn.length c1, .bool x.1.sd, .slice B1 x.1.gd.length d1, .bool x.2.sn, .slice A2 x.2.gn.length c2, .bool x.2.sd, .slice B2 x.2.gd.length d2] 79);obtain ⟨ca0, ca1, ca2, ca3, ca4, ca5, ca6, ca7⟩ := qAB k0;have hz1 := qF4 x.1 _ W0 (h1.le hle);obtain ⟨b1, hb1⟩ : ∃ b, decide (x.1.gn.length = 0) = b := ⟨_, rfl⟩;obtain ⟨b2, hb2⟩ : ∃ b, decide (x.2.gn.length = 0) = b := ⟨_, rfl⟩;have hgoal : qIC x = (b1 && b2) := by unfold qIC; rw [hb1, hb2]
 rw [hgoal];rw [hb1] at hz1;have ⟨hle', k0', h1', h2', hz1', hb1', hb2', hgoal'⟩ := hyd8 hle k0 h1 h2 hz1 hb1 hb2 hgoal;clear hgoal hb2 hb1 hz1 h2 h1 k0 hle;go_enter Tryz.func76, Tryz.ntmps76;go_wp2_with (fail);clear hW0;go_at_call 132;refine hz1'.out.mono ?_;rintro e W1 ⟨rfl, hle1⟩;have k1 := bxl hle1 k0'.out;clear ca0 ca1 ca2 ca3 ca4 ca5 ca6 ca7;obtain ⟨ca0, ca1, ca2, ca3, ca4, ca5, ca6, ca7⟩ := qAB k1;have hz2 := qF4 x.2 _ W1 ((h2'.out.le hle'.out).le hle1);rw [hb2'.out] at hz2;have ⟨hle1', k1', hz2'⟩ := hyd3 hle1 k1 hz2;clear hz2 k1 hle1
 cases b1 with
 | true =>
  go_wp2_with (fail);go_at_call 132;refine hz2'.out.mono ?_;rintro e W2 ⟨rfl, hle2⟩;have hle2' := hyd1 hle2;clear hle2;go_wp2;go_ret;exact ⟨rfl, (hle'.out.trans hle1'.out).trans hle2'.out⟩
 | false =>
  go_wp2;go_ret;exact ⟨rfl, hle'.out.trans hle1'.out⟩
end Go.Proofs.YtabfaobakmjiaaaGreat
namespace Go.Proofs.YtabfaobakmjiaaaGreat
set_option maxRecDepth 100000
set_option maxHeartbeats 4000000
set_option linter.unusedVariables false
noncomputable def qCc (l : List ArmA) (j : Nat) : Bool :=
 match tval (l.getD j default).c with
 | some g => decide (qAI g ≠ 0) && decide (-64 ≤ (l.getD j default).k) && decide ((l.getD j default).k ≤ 64) && (decide (j = 0) || decide ((l.getD (j - 1) default).k < (l.getD j default).k))
 | none => false
noncomputable def qCM (l : List ArmA) : Bool := allB (qCc l) l.length
noncomputable def qB3 (l : List ArmA) : Int := if 24 < l.length then 4 else if qCM l then 0 else 20
def qMT (l : List ArmA) : Nat → Nat
 | 0 => 0
 | m + 1 => Nat.gcd (qMT l m) ((l.getD m default).k - (l.getD 0 default).k).natAbs
theorem qEK {l : List ArmA} {j : Nat} (h : qCc l j = true) : ∃ g, tval (l.getD j default).c = some g ∧ qAI g ≠ 0 ∧ -64 ≤ (l.getD j default).k ∧ (l.getD j default).k ≤ 64 ∧ (j = 0 ∨ (l.getD (j - 1) default).k < (l.getD j default).k) := by
 unfold qCc at h
 cases hg : tval (l.getD j default).c with
 | none => rw [hg] at h; cases h
 | some g =>
  rw [hg] at h;simp only [Bool.and_eq_true, Bool.or_eq_true, decide_eq_true_eq] at h;exact ⟨g, rfl, h.1.1.1, h.1.1.2, h.1.2, h.2⟩
theorem qIg {l : List ArmA} {j : Nat} {g : G2} (hg : tval (l.getD j default).c = some g) (h1 : qAI g ≠ 0) (h2 : -64 ≤ (l.getD j default).k) (h3 : (l.getD j default).k ≤ 64) (h4 : j = 0 ∨ (l.getD (j - 1) default).k < (l.getD j default).k) : qCc l j = true := by
 unfold qCc;rw [hg];simp only [Bool.and_eq_true, Bool.or_eq_true, decide_eq_true_eq];exact ⟨⟨⟨h1, h2⟩, h3⟩, h4⟩
open Go.RowKit Go.Shelf
set_option linter.unusedSimpArgs false
attribute [local go_sem] Oper.semAt_some
theorem qIh {x : FracA} {r : Rat} (h : x.rat? = some r) : x.gn.length = 0 ↔ r = 0 := by
 have hv := FracA.val h;rw [← hv.num];constructor
 ·intro e;have h1 : dg (rnum r) = [] := List.eq_nil_of_length_eq_zero e;have h2 : rnum r = 0 := by rw [← qA4 (rnum r), h1]; rfl
  unfold rnum at h2;have h3 : r.num = 0 := by omega
  exact Rat.num_eq_zero.1 h3
 ·rintro rfl;have : rnum 0 = 0 := by decide +kernel
  rw [this, qAf]
  rfl
theorem qKn {x : FracA × FracA} {g : G2} (h : tval x = some g) : (decide (x.1.gn.length = 0) && decide (x.2.gn.length = 0)) = decide (qAI g = 0) := by
 obtain ⟨h1, h2⟩ := qDH h;rw [Bool.eq_iff_iff];simp only [Bool.and_eq_true, decide_eq_true_eq];rw [qIh h1, qIh h2];constructor
 ·rintro ⟨a, b⟩;unfold qAI;rw [a, b]
  decide +kernel
 ·exact qE8
def qG7 (l : List ArmA) : Nat → Int
 | 0 => -65
 | m + 1 => (l.getD m default).k
theorem qG8 {l : List ArmA} {m : Nat} (hok : ∀ j, j < m → qCc l j = true) : qCc l m = true ↔ (qG7 l m < (l.getD m default).k ∧ (l.getD m default).k ≤ 64 ∧ ∃ g, tval (l.getD m default).c = some g ∧ qAI g ≠ 0) := by
 constructor
 ·intro h;obtain ⟨g, h1, h2, h3, h4, h5⟩ := qEK h;refine ⟨?_, h4, g, h1, h2⟩
  cases m with
  | zero => show (-65 : Int) < _; omega
  | succ m =>
   rcases h5 with h5 | h5
   ·cases h5
   ·exact h5
 ·rintro ⟨h1, h2, g, h3, h4⟩
  cases m with
  | zero => exact qIg h3 h4 (by have : (-65 : Int) < (l.getD 0 default).k := h1; omega) h2 (.inl rfl)
  | succ m =>
   obtain ⟨g', -, -, h5, -, -⟩ := qEK (hok m (by omega));have h6 : (l.getD m default).k < (l.getD (m + 1) default).k := h1;exact qIg h3 h4 (by omega) h2 (.inr h6)
theorem qCC {V W : World} (h : Le V W) (B : Nat) : KeepsFrom B V W := ⟨h.size, fun k o _ hk _ => (h.block k (gsl hk)).trans hk⟩
structure CpI (w W0 : World) (t2 t3 : TypeId) (l : List ArmA) (pre : List (Fin l.length)) (W : World) : Prop where
 kept : Kept w.heap.size [w.heap.size + 2] W0 W
 size : W0.heap.size ≤ W.heap.size
 res : W.heap[w.heap.size]? = some (.cells #[.int .i64 0] t2)
 last : ∃ z : Int, W.heap[w.heap.size + 1]? = some (.cells #[.int .i64 z] t3) ∧ -9223372036854775808 ≤ z ∧ z ≤ 9223372036854775807 ∧ (pre <+: List.finRange l.length → z = qG7 l pre.length ∧ ∀ j, j < pre.length → qCc l j = true)
theorem CpI.from (w W0 : World) (t2 t3 : TypeId) (l : List ArmA) (hs : W0.heap.size = w.heap.size + 3) : OwnFrom W0.heap.size (CpI w W0 t2 t3 l) := by
 rintro s X Y row ⟨h1, h2, h3, z, h4, h5, h6, h7⟩ hg hrow;refine ⟨h1.trans ⟨(Below.refl _ _).grown hg (by omega) fun k e => by have := (hrow k e).1; omega, fun B hB => hg.block B (by simp at hB; omega) (fun e => by have := (hrow _ e.symm).1; simp at hB; omega)⟩, Nat.le_trans h2 hg.size, ?_, z, ?_, h5, h6, h7⟩
 ·exact (hg.block _ (by omega) (fun e => by have := (hrow _ e.symm).1; omega)).trans h3
 ·exact (hg.block _ (by omega) (fun e => by have := (hrow _ e.symm).1; omega)).trans h4
structure CpX (w : World) (t2 : TypeId) (l : List ArmA) (c : Code) (pre : List (Fin l.length)) (W : World) : Prop where
 code : c = .ret
 below : Below w.heap.size w W
 res : W.heap[w.heap.size]? = some (.cells #[.int .i64 20] t2)
 bad : pre <+: List.finRange l.length → qCM l = false
theorem CpX.from (w : World) (t2 : TypeId) (l : List ArmA) (N0 : Nat) (h : w.heap.size < N0) (c : Code) : OwnFrom N0 (CpX w t2 l c) := by
 rintro s X Y row ⟨h1, h2, h3, h4⟩ hg hrow;refine ⟨h1, h2.grown hg h2.size (fun k e => by have := (hrow k e).1; omega), ?_, h4⟩;exact (hg.block _ (gsl h3) (fun e => by have := (hrow _ e.symm).1; omega)).trans h3
theorem qG9 {l : List ArmA} {m : Nat} (hm : m < l.length) (h : qCc l m = false) : qCM l = false := by
 rw [Bool.eq_false_iff];intro hc;have := (qFa _ _).1 hc m hm;rw [h] at this
 cases this
theorem qLX {x : FracA × FracA} (h : tval x = none) : okE (tval x).isSome = 10 := by rw [h]; rfl
theorem qLY {x : FracA × FracA} {g : G2} (h : tval x = some g) : okE (tval x).isSome = 0 := by rw [h]; rfl
theorem qHC (l : List ArmA) (v : Value) (w : World) (hv : ArmsL w v l) :
  Calls Tryz.prog 37 #[v] w fun e w' => e = .returned (.int .i64 (qB3 l)) ∧ Le w w' := by
 obtain ⟨tv, hv⟩ := hv.vals;have hv0 := hv;obtain ⟨A, c, rfl, hlc, hcm, hAN, hki, htv, hr⟩ := hv;unfold maxLen at hcm;have ⟨hv0', hki', htv', hr', hAN'⟩ := hyd5 hv0 hki htv hr hAN;clear hAN hr htv hki hv0;refine (callsIn_wide (n := 5)).1 ?_;refine callsIn_of_wp_marks Tryz.func37 rfl trivial ?_ rfl;simp only [Tryz.ntmps37, List.size_toArray, List.length_cons, List.length_nil, Nat.reduceAdd, Nat.reduceSub, Array.replicate_succ, Array.replicate_zero, List.push_toArray, List.append_toArray, List.nil_append, List.cons_append]
 by_cases hbig : 24 < l.length
 ·have e1 : qB3 l = 4 := by unfold qB3; rw [if_pos hbig]
  rw [e1];have e1' := hyd1 e1;clear e1;gi_wp2;refine qAZ w.heap.size [] _ trivial fun w9 hb hkeep => ?_;have c9 := qAF (hkeep _ _ (qD4 _ _) rfl);exact ⟨.int .i64 4, by simp [results, Tryz.results37, go_sem, c9], rfl, Below.trans (qAA _ _) hb⟩
 ·have e1 : qB3 l = if qCM l then 0 else 20 := by unfold qB3; rw [if_neg hbig]
  have e1' := hyd1 e1;clear e1;have hb24 : decide ((24 : Int) < (l.length : Int)) = false := by simp; omega
  have hb24' : ¬ (24 : Int) < (l.length : Int) := by omega
  gi_wp2_with (first | (refine ⟨trivial, ?_⟩; gi_at_call 74; refine (callsIn_wide.2 (qJ3 _ _ _ _)).mono ?_; rintro e w' ⟨rfl, rfl⟩));obtain ⟨W0, hW0, hsz, hBW, h0, h1, h2⟩ := qDC w (.cells #[.int .i64 0] 27) (.cells #[.int .i64 (-65)] 3) (.cells #[.slice A l.length c] 25);rw [hW0];clear hW0;have hyield := qFH l _ tv w W0 (w.heap.size + 1 + 1) w.heap.size hv0'.out (by omega) (by omega) (by omega) (Nat.le_refl _) hBW (qAF h2);refine qDM rfl (by omega) (gf := 129) (lb := #[.pointer (some ⟨w.heap.size + 1 + 1, 0, none⟩)]) rfl trivial (enters_of Tryz.func129 (by kernel_rfl) rfl)
   hyield Kept.trans (Kept.put (by omega) (by simp; omega)) (Below.refl _ _) (fun _ => rfl)
   (CpI w W0 27 3 l) (CpX w 27 l) (CpI.from w W0 _ _ l hsz) (CpX.from _ _ _ _ (by omega)) ⟨Kept.refl _ _ _, Nat.le_refl _, h0, -65, h1, by omega, by omega, fun _ => ⟨rfl, fun j h => absurd h (Nat.not_lt_zero j)⟩⟩ (fun x W => { tmps := #[.slice A l.length c, undef, .pointer (some ⟨w.heap.size, 0, none⟩), .pointer (some ⟨w.heap.size + 1, 0, none⟩), .int .i64 l[x.1].k, .pointer (some ⟨W.heap.size, 0, none⟩), .slice A l.length c, .int .i64 l.length, .bool false, .slice A l.length c, .func (.func 129) #[] #[.pointer (some ⟨w.heap.size + 1 + 1, 0, none⟩)], .int .i64 l[x.1].k, .agg (tv x.1), undef, undef, undef, undef, undef, undef, undef, undef, undef, undef, undef, undef, undef, undef, undef, undef, undef], defers := [] }) (fun x W => W.alloc (.cells (tv x.1) 79)) (fun _ _ => World.grownBy_alloc _ _ _) (fun x W hz => Kept.alloc _ (by omega) (by simp; omega)) ?_ ?_ ?_ ?_
  ·intro la x W K hK;dsimp only [qG6];obtain ⟨b, off, hA, hb, hcc⟩ := hr'.out (by have := x.2; omega);obtain ⟨s1, A1, n1, c1, t1, B1, m1, d1, s2, A2, n2, c2, t2, B2, m2, d2, he, -⟩ := hcc x.1 x.2;rw [he] at hK ⊢;clear hcc hA hb;gi_wp2;exact hK
  ·rintro la pre x W V ⟨k1, k2, k3, z, k4, k5, k6, k7⟩ hz1 hz2 hcl hlen2;have hx := x.2;obtain ⟨b, off, hA, hb, hcc⟩ := hr'.out (by omega);obtain ⟨s1, A1, n1, c1, t1, B1, m1, d1, s2, A2, n2, c2, t2, B2, m2, d2, he, -⟩ := hcc x.1 x.2;have hbox := hcl W.heap.size _ (qD4 W _) rfl;have htx := htv'.out x.1 x.2;have hbV : Below w.heap.size w V := hBW.trans k1.1;have htV := htx.le hbV;have cL := qAF k4;have fL := fz0 k4 0;have cR := qAF k3;have fR := fz0 k3 0;have hgd : l.getD x.1 default = l[x.1] := by simp [List.getD_eq_getElem?_getD, List.getElem?_eq_getElem hx]
   have hpos : pre ++ [x] <+: List.finRange l.length → (qCc l x.1 = true ↔ (z < l[x.1].k ∧ l[x.1].k ≤ 64 ∧ ∃ g, tval l[x.1].c = some g ∧ qAI g ≠ 0)) ∧ pre.length = x.1 ∧ ∀ j, j < x.1 → qCc l j = true := fun hp => by
    obtain ⟨hp1, hp2⟩ := qCO hp;obtain ⟨q1, q2⟩ := k7 hp1;rw [← hp2] at q1 q2;have := qG8 q2;rw [hgd, ← q1] at this;exact ⟨this, hp2.symm, q2⟩
   have hbad : ∀ (W' : World) (hle : Le V W') (hb : ¬ (z < l[x.1].k ∧ l[x.1].k ≤ 64 ∧ ∃ g, tval l[x.1].c = some g ∧ qAI g ≠ 0)) (aa : Act), ownPostG W0.heap.size (Kept w.heap.size [w.heap.size + 1 + 1]) (CpI w W0 27 3 l) (CpX w 27 l) (pre ++ [x]) V .ret aa (W'.setCell ⟨w.heap.size, 0, none⟩ (.int .i64 20)) := fun W' hle hb aa =>
    ⟨(qCC hle _).trans ((KeepsOthers.setCell _ _ _).from _), rfl, (hbV.trans (hle.mono (by omega))).setCell (p := ⟨w.heap.size, 0, none⟩) (Nat.le_refl _) _, qA8 ((hle.block _ (by omega)).trans k3), fun hp => qG9 hx (by
     rw [Bool.eq_false_iff]
     exact fun hc => hb ((hpos hp).1.1 hc))⟩
   have hgood : ∀ (W' : World) (hle : Le V W') (hb : z < l[x.1].k ∧ l[x.1].k ≤ 64 ∧ ∃ g, tval l[x.1].c = some g ∧ qAI g ≠ 0) (aa : Act), ownPostG W0.heap.size (Kept w.heap.size [w.heap.size + 1 + 1]) (CpI w W0 27 3 l) (CpX w 27 l) (pre ++ [x]) V .normal aa (W'.setCell ⟨w.heap.size + 1, 0, none⟩ (.int .i64 l[x.1].k)) := fun W' hle hb aa => by
    have hk2 : Kept w.heap.size [w.heap.size + 1 + 1] V (W'.setCell ⟨w.heap.size + 1, 0, none⟩ (.int .i64 l[x.1].k)) :=
     ⟨(hle.mono (by omega)).setCell (p := ⟨w.heap.size + 1, 0, none⟩) (by show w.heap.size ≤ w.heap.size + 1; omega) _, fun B hB => (Below.heap_setCell _ _ _ _ (show B ≠ w.heap.size + 1 by simp at hB; omega)).trans (hle.block _ (by simp at hB; omega))⟩
    refine ⟨(qCC hle _).trans ((KeepsOthers.setCell _ _ _).from _), hk2, k1.trans hk2, by simp [World.setCell]; exact Nat.le_trans k2 hle.size, (Below.heap_setCell _ _ _ _ (show w.heap.size ≠ w.heap.size + 1 by omega)).trans ((hle.block _ (by omega)).trans k3), l[x.1].k, qA8 ((hle.block _ (by omega)).trans k4), ?_, ?_, fun hp => ?_⟩
    ·have := (hki'.out _ (List.getElem_mem hx)).1; omega
    ·have := (hki'.out _ (List.getElem_mem hx)).2; omega
    ·obtain ⟨p1, p2, p3⟩ := hpos hp;rw [List.length_append, List.length_singleton, p2];refine ⟨?_, fun j hj => ?_⟩
     ·show _ = (l.getD x.1 default).k
      rw [hgd]
     ·by_cases hjx : j = x.1
      ·rw [hjx]; exact p1.2 hb
      ·exact p3 j (by omega)
   have hki1 := hki'.out _ (List.getElem_mem hx);have hchk := fun W' (hle : Le V W') => qIf l[x.1].c _ W' (htV.le hle);have hnon := fun W' (hle : Le V W') => qKm l[x.1].c _ W' (htV.le hle);rw [he] at hbox htV hchk hnon ⊢;have hbox' : Hid (V.heap[W.heap.size]? = some (.cells #[.bool s1, .slice A1 n1 c1, .bool t1, .slice B1 m1 d1, .bool s2, .slice A2 n2 c2, .bool t2, .slice B2 m2 d2] 79)) := Lib.hid hbox;obtain ⟨ca0, ca1, ca2, ca3, ca4, ca5, ca6, ca7⟩ := qAB hbox;obtain ⟨yc, hyc⟩ : ∃ y, l[x.1].c = y := ⟨_, rfl⟩;rw [hyc] at hbad hgood hchk hnon htV;generalize l[x.1].k = kk at hbad hgood hki1 ⊢;obtain ⟨BB, hBB⟩ : ∃ BB, W.heap.size = BB := ⟨_, rfl⟩;rw [hBB] at hbox' ca0 ca1 ca2 ca3 ca4 ca5 ca6 ca7 ⊢;have hBV : BB < V.heap.size := (gsl hbox'.out);have hRV : w.heap.size + 3 ≤ V.heap.size := by omega
   have hsz1 : W0.heap.size ≤ w.heap.size + 3 := by omega
   have hsz2 : w.heap.size + 3 ≤ W0.heap.size := by omega
   clear hyield hcc hA hb hcl hpos k7 htx hbox hgd;have ⟨hsz', hbad', hgood', hchk', hnon', htV', hyc', hbV'⟩ := hyd8 hsz hbad hgood hchk hnon htV hyc hbV;have ⟨k1', hBB', hz2', hBW', h0', h1', h2', k3'⟩ := hyd8 k1 hBB hz2 hBW h0 h1 h2 k3;have ⟨k4', hz1'⟩ := hyd2 k4 hz1;clear hz1 k4 k3 h2 h1 h0 hBW hz2 hBB k1 hbV hyc htV hnon hchk hgood hbad hsz
   by_cases c1 : kk ≤ z
   ·gi_wp2_with (refine ⟨trivial, ?_⟩);exact hbad'.out V (Le.refl _) (by omega) _
   ·have c1' : z < kk := by omega
    by_cases c2 : 64 < kk
    ·gi_wp2_with (refine ⟨trivial, ?_⟩);exact hbad'.out V (Le.refl _) (by omega) _
    ·have c2' : kk ≤ 64 := by omega
     rcases qCK yc with ⟨g, hg⟩ | hg
     ·have hc0 := qLY hg;have hz := qKn hg;obtain ⟨bz, hbz⟩ : ∃ b, decide (qAI g = 0) = b := ⟨_, rfl⟩;rw [hbz] at hz;have hz' : qIC yc = bz := hz;rw [hc0] at hchk';rw [hz'] at hnon';have ⟨hg', hbz', hz', hz'', hc0'⟩ := hyd5 hg hbz hz hz' hc0;clear hc0 hz' hz hbz hg;gi_wp2_with (fail);refine ⟨trivial, ?_⟩;gi_at_call 75;refine (CallsIn.inRound la (callsIn_wide.2 (hchk'.out V (Le.refl _)))).mono ?_;rintro e w1 ⟨rfl, hle1⟩;clear ca0 ca1 ca2 ca3 ca4 ca5 ca6 ca7;obtain ⟨ca0, ca1, ca2, ca3, ca4, ca5, ca6, ca7⟩ := qAB ((hle1.block _ hBV).trans hbox'.out);have hle1' := hyd1 hle1;clear hle1;gi_wp2_with (fail);refine ⟨trivial, ?_⟩;gi_at_call 76;refine (CallsIn.inRound la (callsIn_wide.2 (hnon'.out w1 hle1'.out))).mono ?_;rintro e w2 ⟨rfl, hle2⟩;have hle12 := hle1'.out.trans hle2;have cL2 := (hle12.cell (p := ⟨w.heap.size + 1, 0, none⟩) (by show w.heap.size + 1 < V.heap.size; omega)).trans cL;have fL2 := fz0 ((hle12.block (w.heap.size + 1) (by omega)).trans k4'.out) 0;have cR2 := (hle12.cell (p := ⟨w.heap.size, 0, none⟩) (by show w.heap.size < V.heap.size; omega)).trans cR;have fR2 := fz0 ((hle12.block w.heap.size (by omega)).trans k3'.out) 0;have ⟨hle2', hle12'⟩ := hyd2 hle2 hle12;clear hle12 hle2
      cases bz with
      | true =>
       gi_wp2
       exact hbad'.out w2 hle12'.out (by
        rintro ⟨-, -, g', q1, q2⟩;rw [hg'.out] at q1;injection q1 with q1;subst q1
        exact q2 (by have := hbz'.out; simpa using this)) _
      | false =>
       gi_wp2;exact hgood'.out w2 hle12'.out ⟨c1', c2', g, hg'.out, by have := hbz'.out; simpa using this⟩ _
     ·have hc0 := qLX hg;rw [hc0] at hchk';have ⟨hg', hc0'⟩ := hyd2 hg hc0;clear hc0 hg;gi_wp2_with (fail);refine ⟨trivial, ?_⟩;gi_at_call 75;refine (CallsIn.inRound la (callsIn_wide.2 (hchk'.out V (Le.refl _)))).mono ?_;rintro e w1 ⟨rfl, hle1⟩;have cR2 := (hle1.cell (p := ⟨w.heap.size, 0, none⟩) (by show w.heap.size < V.heap.size; omega)).trans cR;have fR2 := fz0 ((hle1.block w.heap.size (by omega)).trans k3'.out) 0;have hle1' := hyd1 hle1;clear hle1;gi_wp2_with (refine ⟨trivial, ?_⟩)
      exact hbad'.out w1 hle1'.out (by
       rintro ⟨-, -, g', q1, q2⟩;rw [hg'.out] at q1
       cases q1) _
  ·rintro D ys W hD rfl ⟨k1, k2, k3, z, k4, k5, k6, k7⟩ hDK;have cR := qAF k3;have fR := fz0 k3 0
   have hok : qCM l = true := (qFa _ _).2 (by
    have := (k7 (qBW _)).2
    rwa [List.length_finRange] at this)
   have hbW : Below w.heap.size w W := hBW.trans k1.1;clear hyield k7;have ⟨hbW', k3', hDK', hok', k1', k4'⟩ := hyd6 hbW k3 hDK hok k1 k4;clear k4 k1 hok hDK k3 hbW;gi_wp2;refine qAZ w.heap.size [{ target := .collected D, args := #[] }] _ ⟨⟨D, rfl, by omega, ?_, by simp⟩, trivial⟩ fun w9 hb hkeep => ?_
   ·exact (Below.heap_setCell _ _ _ _ (show D ≠ w.heap.size by omega)).trans hDK'.out
   ·have c9 := qAF (hkeep _ _ (qA8 k3'.out) rfl);exact ⟨.int .i64 0, by simp [results, Tryz.results37, go_sem, c9], by rw [e1'.out, if_pos hok'.out], (hbW'.out.setCell (p := ⟨w.heap.size, 0, none⟩) (Nat.le_refl _) _).trans hb⟩
  ·rintro D cc pre W hD hpre ⟨rfl, k1, k2, k3⟩ hDK;have hok := k3 hpre;clear hyield k3;have ⟨k1', k2', hDK', hok'⟩ := hyd4 k1 k2 hDK hok;clear hok hDK k2 k1;gi_wp2;refine qAZ w.heap.size [{ target := .collected D, args := #[] }] _ ⟨⟨D, rfl, by omega, hDK'.out, by simp⟩, trivial⟩ fun w9 hb hkeep => ?_;have c9 := qAF (hkeep _ _ k2'.out rfl);exact ⟨.int .i64 20, by simp [results, Tryz.results37, go_sem, c9], by rw [e1'.out, if_neg (by rw [hok'.out]; simp)], k1'.out.trans hb⟩
end Go.Proofs.YtabfaobakmjiaaaGreat
namespace Go.Proofs.YtabfaobakmjiaaaGreat
set_option maxRecDepth 100000
set_option maxHeartbeats 4000000
open Go.RowKit Go.Lib
set_option linter.unusedVariables false
set_option linter.unusedSimpArgs false
attribute [local go_sem] Oper.semAt_some
attribute [local go_sem ↓] Go.wp_at_zero Go.wp_at_succ
end Go.Proofs.YtabfaobakmjiaaaGreat
namespace Go.Proofs.YtabfaobakmjiaaaGreat
set_option maxRecDepth 100000
set_option maxHeartbeats 4000000
open Go.RowKit Go.Shelf
set_option linter.unusedVariables false
set_option linter.unusedSimpArgs false
attribute [local go_sem] Oper.semAt_some
attribute [local go_sem ↓] Go.wp_at_zero Go.wp_at_succ
theorem qF5 (l : List ArmA) : (qB3 l = 0 ∧ l.length ≤ 24 ∧ qCM l = true) ∨ (qB3 l ≠ 0 ∧ (24 < l.length ∨ qCM l = false)) := by
 unfold qB3
 by_cases h : 24 < l.length
 ·rw [if_pos h]; exact .inr ⟨by decide, .inl h⟩
 ·rw [if_neg h]
  cases hp : qCM l with
  | true => exact .inl ⟨by simp, by omega, rfl⟩
  | false => exact .inr ⟨by simp, .inr rfl⟩
end Go.Proofs.YtabfaobakmjiaaaGreat
