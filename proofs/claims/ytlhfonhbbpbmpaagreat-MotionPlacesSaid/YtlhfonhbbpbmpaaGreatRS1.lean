/- reference 1: big, Great, SameWhole, SameFrac. reference 1: both. reference 1: what is said of results; CheckFrac, FromInt, Ratio, Compare, Add, Mul, Div. What an answer reads as: fractions that came out of a call. -/
import Derived.Test.YtlhfonhbbpbmpaaGreatRQ5
namespace Go.Proofs.YtlhfonhbbpbmpaaGreat
set_option maxRecDepth 100000
set_option maxHeartbeats 4000000
open Go.RowKit Go.Shelf
set_option linter.unusedVariables false
set_option linter.unusedSimpArgs false
def bigB (n m : Nat) : Bool := (decide (m < n) && decide (n ≤ 40)) || decide (42 < n)
theorem qIS (n m : Nat) (w : World) (hn : (n : Int) ≤ 9223372036854775807) (hm : (m : Int) ≤ 1000) :
  Calls Tryz.prog 37 #[.int .i64 n, .int .i64 m] w fun e w' => e = .returned (.bool (bigB n m)) ∧ w = w' := by
 unfold bigB
 by_cases h1 : m < n
 ·by_cases h2 : n ≤ 40
  ·have d1 : (decide (m < n) && decide (n ≤ 40) || decide (42 < n)) = true := by simp [h1, h2]
   rw [d1]
   clear d1
   have i1 : (m : Int) < (n : Int) := by omega
   have i2 : (n : Int) ≤ 40 := by omega
   go_enter Tryz.func37, Tryz.ntmps37
   go_wp2
   go_ret
   exact ⟨rfl, rfl⟩
  ·by_cases h3 : 42 < n
   ·have d1 : (decide (m < n) && decide (n ≤ 40) || decide (42 < n)) = true := by simp [h3]
    rw [d1]
    clear d1
    have i1 : (m : Int) < (n : Int) := by omega
    have i2 : ¬ (n : Int) ≤ 40 := by omega
    have i3 : 42 < (n : Int) := by omega
    go_enter Tryz.func37, Tryz.ntmps37
    go_wp2
    go_ret
    exact ⟨rfl, rfl⟩
   ·have d1 : (decide (m < n) && decide (n ≤ 40) || decide (42 < n)) = false := by simp [h2, h3]
    rw [d1]
    clear d1
    have i1 : (m : Int) < (n : Int) := by omega
    have i2 : ¬ (n : Int) ≤ 40 := by omega
    have i3 : ¬ 42 < (n : Int) := by omega
    go_enter Tryz.func37, Tryz.ntmps37
    go_wp2
    go_ret
    exact ⟨rfl, rfl⟩
 ·by_cases h3 : 42 < n
  ·have d1 : (decide (m < n) && decide (n ≤ 40) || decide (42 < n)) = true := by simp [h3]
   rw [d1]
   clear d1
   have i1 : ¬ (m : Int) < (n : Int) := by omega
   have i3 : 42 < (n : Int) := by omega
   go_enter Tryz.func37, Tryz.ntmps37
   go_wp2
   go_ret
   exact ⟨rfl, rfl⟩
  ·have d1 : (decide (m < n) && decide (n ≤ 40) || decide (42 < n)) = false := by simp [h1, h3]
   rw [d1]
   clear d1
   have i1 : ¬ (m : Int) < (n : Int) := by omega
   have i3 : ¬ 42 < (n : Int) := by omega
   go_enter Tryz.func37, Tryz.ntmps37
   go_wp2
   go_ret
   exact ⟨rfl, rfl⟩
def qDF (x : FracA) (m : Nat) : Bool := bigB x.gn.length m || bigB x.gd.length m
theorem ArrL.lenB {α : Type} {L : Nat → Prop} {f : α → Value} {w : World} {v : Value} {xs : List α} (h : ArrL L f w v xs) : (xs.length : Int) ≤ 9223372036854775807 := by
 obtain ⟨A, c, hv, h1, h2, -⟩ := h
 unfold maxLen at h2
 omega
theorem qGS (L : Nat → Prop) (x : FracA) (m : Nat) (v : Value) (w : World) (hm : (m : Int) ≤ 1000) (h : IsFracA L w v x) :
  Calls Tryz.prog 13 #[v, .int .i64 m] w fun e w' => e = .returned (.bool (qDF x m)) ∧ Le w w' := by
 obtain ⟨A, c, B, d, rfl, h1, h2⟩ := h
 have l1 := h1.lenB
 have l2 := h2.lenB
 have k1 := fun W => qIS x.gn.length m W l1 hm
 have k2 := fun W => qIS x.gd.length m W l2 hm
 obtain ⟨b1, hb1⟩ : ∃ b1, bigB x.gn.length m = b1 := ⟨_, rfl⟩
 obtain ⟨b2, hb2⟩ : ∃ b2, bigB x.gd.length m = b2 := ⟨_, rfl⟩
 have hg : qDF x m = (b1 || b2) := by unfold qDF; rw [hb1, hb2]
 rw [hb1] at k1
 rw [hb2] at k2
 rw [hg]
 have hle := qAA w (.cells #[.bool x.sn, .slice A x.gn.length c, .bool x.sd, .slice B x.gd.length d] 27)
 have ⟨h1', h2', k1', k2', hb1', hb2', hg', hle'⟩ := hyd8 h1 h2 k1 k2 hb1 hb2 hg hle
 clear hle hg hb2 hb1 k2 k1 h2 h1
 cases b1
 ·go_enter Tryz.func13, Tryz.ntmps13
  go_wp2_with (fail)
  go_at_call 37
  refine (k1'.out _).mono ?_
  rintro e w' ⟨rfl, rfl⟩
  go_wp2_with (fail)
  go_at_call 37
  refine (k2'.out _).mono ?_
  rintro e w' ⟨rfl, rfl⟩
  go_wp2
  go_ret
  exact ⟨by simp, hle'.out⟩
 ·go_enter Tryz.func13, Tryz.ntmps13
  go_wp2_with (fail)
  go_at_call 37
  refine (k1'.out _).mono ?_
  rintro e w' ⟨rfl, rfl⟩
  go_wp2
  go_ret
  exact ⟨by simp, hle'.out⟩
def qCj (s1 : Bool) (g1 : List Nat) (s2 : Bool) (g2 : List Nat) : Bool := (s1 == s2) && (g1 == g2)
theorem qEU (L L2 : Nat → Prop) (s1 s2 : Bool) (g1 g2 : List Nat) (A B : Option Addr) (c d : Nat) (w : World) (h1 : ArrL L (gv .u32) w (.slice A g1.length c) g1) (h2 : ArrL L2 (gv .u32) w (.slice B g2.length d) g2) :
  Calls Tryz.prog 83 #[.agg #[.bool s1, .slice A g1.length c], .agg #[.bool s2, .slice B g2.length d]] w fun e w' => e = .returned (.bool (qCj s1 g1 s2 g2)) ∧ Le w w' := by
 have l1 := h1.lenB
 have l2 := h2.lenB
 obtain ⟨W0, hW0, hsz, hle, k0, k1⟩ := qAQ w (.cells #[.bool s1, .slice A g1.length c] 25) (.cells #[.bool s2, .slice B g2.length d] 25)
 by_cases hs : s1 = s2
 ·subst hs
  by_cases hl : g1.length = g2.length
  ·have hne : ((g1.length : Int) != (g2.length : Int)) = false := by simp [hl]
   have hne2 : ¬ (g1.length : Int) ≠ (g2.length : Int) := by simp [hl]
   have hres : qCj s1 g1 s1 g2 = (g1 == g2) := by unfold qCj; simp
   rw [hres]
   obtain ⟨Ap, cp, ep, -, -, aN, a3⟩ := h1
   injection ep with e1 e2 e3
   subst e1 e3
   obtain ⟨Bp, dp, ep, -, -, bN, b3⟩ := h2
   injection ep with e1 e4 e3
   subst e1 e3
   have ⟨hl', hres', a3', b3', aN', bN', hW0', hle'⟩ := hyd8 hl hres a3 b3 aN bN hW0 hle
   have ⟨k0', k1'⟩ := hyd2 k0 k1
   clear k1 k0 hle hW0 bN aN b3 a3 hres hl
   clear e2 e4
   go_enter Tryz.func83, Tryz.ntmps83
   go_wp2
   rw [hW0'.out]
   go_loopw [5] (fun i wr => ∃ k : Nat, k ≤ g1.length ∧ i = .int .i64 k ∧ Hid (g1.take k = g2.take k) ∧ Hid (Le W0 wr)) (fun i _ => g1.length - (intOf i).toNat)
   case atStart => exact ⟨0, Nat.zero_le _, rfl, Lib.hid (by simp), Lib.hid (Le.refl _)⟩
   case round =>
    obtain ⟨k, hk, rfl, hpre, hlr⟩ := hrel
    have q0 := (hlr.out.block w.heap.size (by omega)).trans k0'.out
    have q1 := (hlr.out.block (w.heap.size + 1) (by omega)).trans k1'.out
    obtain ⟨z0, z1⟩ := qAn q0
    obtain ⟨y0, y1⟩ := qAn q1
    have ⟨q0', q1'⟩ := hyd2 q0 q1
    clear q1 q0
    by_cases hlt : k < g1.length
    ·have hlt2 : k < g2.length := by have := hl'.out; omega
     obtain ⟨ba, oa, rfl, -, hba, hca⟩ := a3'.out (by omega)
     obtain ⟨bb, ob, rfl, -, hbb, hcb⟩ := b3'.out (by omega)
     have hcka := (Below.cell (hle'.out.trans hlr.out) (p := ⟨ba, oa + k, none⟩) hba).trans (hca k hlt)
     have hckb := (Below.cell (hle'.out.trans hlr.out) (p := ⟨bb, ob + k, none⟩) hbb).trans (hcb k hlt2)
     unfold gv at hcka hckb
     obtain ⟨x, hx⟩ : ∃ x, g1[k] = x := ⟨_, rfl⟩
     obtain ⟨y, hy⟩ : ∃ y, g2[k] = y := ⟨_, rfl⟩
     rw [hx] at hcka
     rw [hy] at hckb
     clear hca hcb
     have i1 : (0 : Int) ≤ (k : Int) := by omega
     have i2 : (k : Int) < (g1.length : Int) := by omega
     have i3 : (k : Int) < (g2.length : Int) := by omega
     by_cases hxy : x = y
     ·subst hxy
      have hz : ((x : Int) != (x : Int)) = false := by simp
      have hp2 : Hid (g1.take (k + 1) = g2.take (k + 1)) := Lib.hid (by rw [List.take_succ_eq_append_getElem hlt, List.take_succ_eq_append_getElem hlt2, hpre.out, hx, hy])
      have ⟨hx', hy'⟩ := hyd2 hx hy
      clear hy hx
      go_wp2
      go_quiet (fail)
      go_wp2
      go_roundw
      case rel => exact ⟨k + 1, by omega, by go_num, hp2, Lib.hid (hlr.out.trans (Le.quiet _))⟩
      case measure => simp [intOf]; omega
     ·have hz : ((x : Int) != (y : Int)) = true := by simp; omega
      have hne9 : (g1 == g2) = false := by
       rw [beq_eq_false_iff_ne]
       intro he
       subst he
       exact hxy (hx.symm.trans hy)
      have ⟨hne9', hx', hy'⟩ := hyd3 hne9 hx hy
      clear hy hx
      clear hne9 hxy
      go_wp2
      go_quiet (fail)
      go_wp2
      go_ret
      exact ⟨qCA (by rw [hne9'.out]), hle'.out.trans (hlr.out.trans (Le.quiet _))⟩
    ·have he : (g1 == g2) = true := by
      rw [beq_iff_eq]
      have h := hpre.out
      have := hl'.out
      rwa [List.take_of_length_le (by omega), List.take_of_length_le (by omega)] at h
     have he' := hyd1 he
     clear he
     have hlt2 : ¬ (k : Int) < (g1.length : Int) := by omega
     go_wp2
     go_ret
     exact ⟨qCA (by rw [he'.out]), hle'.out.trans hlr.out⟩
  ·have hne : ((g1.length : Int) != (g2.length : Int)) = true := by simp; omega
   have hne2 : (g1.length : Int) ≠ (g2.length : Int) := by omega
   have hres : qCj s1 g1 s1 g2 = false := by
    unfold qCj
    have : (g1 == g2) = false := beq_eq_false_iff_ne.2 (fun h => hl (by rw [h]))
    rw [this, Bool.and_false]
   rw [hres]
   have ⟨hres', h1', h2', hW0', hle', k0', k1', hl'⟩ := hyd8 hres h1 h2 hW0 hle k0 k1 hl
   clear hl k1 k0 hle hW0 h2 h1 hres
   go_enter Tryz.func83, Tryz.ntmps83
   go_wp2
   go_ret
   have h9 := hle'.out
   rw [← hW0'.out] at h9
   exact ⟨rfl, h9⟩
 ·have hres : qCj s1 g1 s2 g2 = false := by
   unfold qCj
   rw [beq_eq_false_iff_ne.2 hs, Bool.false_and]
  have hs2 : (s1 != s2) = true := by simpa using hs
  rw [hres]
  have ⟨hres', h1', h2', hW0', hle', k0', k1'⟩ := hyd7 hres h1 h2 hW0 hle k0 k1
  clear k1 k0 hle hW0 h2 h1 hres
  go_enter Tryz.func83, Tryz.ntmps83
  go_wp2
  go_ret
  have h9 := hle'.out
  rw [← hW0'.out] at h9
  exact ⟨rfl, h9⟩
def qDc (x y : FracA) : Bool := qCj x.sn x.gn y.sn y.gn && qCj x.sd x.gd y.sd y.gd
theorem qGT (x : FracA) : qDc x x = true := by unfold qDc qCj; simp
theorem qEo (L L2 : Nat → Prop) (x y : FracA) (v1 v2 : Value) (w : World) (h1 : IsFracA L w v1 x) (h2 : IsFracA L2 w v2 y) :
  Calls Tryz.prog 36 #[v1, v2] w fun e w' => e = .returned (.bool (qDc x y)) ∧ Le w w' := by
 obtain ⟨A, c, B, d, rfl, p1, p2⟩ := h1
 obtain ⟨A2, c2, B2, d2, rfl, q1, q2⟩ := h2
 obtain ⟨W0, hW0, hsz, hle, k0, k1⟩ := qAQ w (.cells #[.bool x.sn, .slice A x.gn.length c, .bool x.sd, .slice B x.gd.length d] 27) (.cells #[.bool y.sn, .slice A2 y.gn.length c2, .bool y.sd, .slice B2 y.gd.length d2] 27)
 obtain ⟨b1, hb1⟩ : ∃ b1, qCj x.sn x.gn y.sn y.gn = b1 := ⟨_, rfl⟩
 obtain ⟨b2, hb2⟩ : ∃ b2, qCj x.sd x.gd y.sd y.gd = b2 := ⟨_, rfl⟩
 have hres : qDc x y = (b1 && b2) := by unfold qDc; rw [hb1, hb2]
 rw [hres]
 have r1 := qEU L L2 x.sn y.sn x.gn y.gn A A2 c c2 W0 (p1.le hle) (q1.le hle)
 rw [hb1] at r1
 obtain ⟨z0, z1, z2, z3⟩ := qAM k0
 obtain ⟨y0, y1, y2, y3⟩ := qAM k1
 have ⟨hres', hb1', hb2', p1', p2', q1', q2', hle'⟩ := hyd8 hres hb1 hb2 p1 p2 q1 q2 hle
 have ⟨k0', k1', r1', hW0'⟩ := hyd4 k0 k1 r1 hW0
 clear hW0 r1 k1 k0 hle q2 q1 p2 p1 hb2 hb1 hres
 go_enter Tryz.func36, Tryz.ntmps36
 go_wp2_with (fail)
 go_at_call 83
 rw [hW0'.out]
 refine r1'.out.mono ?_
 rintro e W1 ⟨rfl, hle1⟩
 clear z0 z1 z2 z3 y0 y1 y2 y3
 have k01 := (hle1.block w.heap.size (by omega)).trans k0'.out
 have k11 := (hle1.block (w.heap.size + 1) (by omega)).trans k1'.out
 obtain ⟨z0, z1, z2, z3⟩ := qAM k01
 obtain ⟨y0, y1, y2, y3⟩ := qAM k11
 have hle2 := hle'.out.trans hle1
 have r2 := qEU L L2 x.sd y.sd x.gd y.gd B B2 d d2 W1 (p2'.out.le hle2) (q2'.out.le hle2)
 rw [hb2'.out] at r2
 have ⟨hle1', hle2', k01', k11', r2'⟩ := hyd5 hle1 hle2 k01 k11 r2
 clear r2 k11 k01 hle2 hle1
 cases b1
 ·go_wp2
  go_ret
  exact ⟨by simp, hle2'.out⟩
 ·go_wp2_with (fail)
  go_at_call 83
  refine r2'.out.mono ?_
  rintro e W2 ⟨rfl, hle3⟩
  have hle3' := hyd1 hle3
  clear hle3
  go_wp2
  go_ret
  exact ⟨by simp, hle2'.out.trans hle3'.out⟩
theorem qGw (w : World) (o0 o1 o2 o3 : Obj) : ∃ W0, (((w.alloc o0).alloc o1).alloc o2).alloc o3 = W0 ∧ W0.heap.size = w.heap.size + 4 ∧ Le w W0 ∧ W0.heap[w.heap.size]? = some o0 ∧ W0.heap[w.heap.size + 1]? = some o1 ∧ W0.heap[w.heap.size + 1 + 1]? = some o2 ∧ W0.heap[w.heap.size + 1 + 1 + 1]? = some o3 := by
 obtain ⟨W1, hW1, hs1, hle1, k0, k1, k2⟩ := qAw w o0 o1 o2
 rw [hW1]
 refine ⟨_, rfl, by rw [World.size_alloc]; omega, hle1.trans (qAA _ _), ?_, ?_, ?_, ?_⟩
 ·exact ((qAA W1 o3).block _ (by omega)).trans k0
 ·exact ((qAA W1 o3).block _ (by omega)).trans k1
 ·exact ((qAA W1 o3).block _ (by omega)).trans k2
 ·have : w.heap.size + 1 + 1 + 1 = W1.heap.size := by omega
  rw [this]; unfold World.alloc; exact Array.getElem?_push_size
def qHs (v : Value) : Prop := ∃ s A n c B m d, v = .agg #[.bool s, .slice A n c, .slice B m d]
theorem RatL.qform {L : Nat → Prop} {k : IntKind} {w : World} {v : Value} {r : Rat} (h : RatL L k w v r) : qHs v := by
 obtain ⟨A1, c1, A2, c2, rfl, -, -⟩ := h.form
 exact ⟨_, _, _, _, _, _, _, rfl⟩
noncomputable def okA (x : FracA) : Bool := x.rat?.isSome
def qIT (L : Nat → Prop) (x y : FracA) (w : World) (e : Ending) (w' : World) : Prop := Le w w' ∧ ∃ vx vy, e = .returned (.tuple #[vx, vy, .bool (okA x && okA y)]) ∧ qHs vx ∧ qHs vy ∧ (∀ r, x.rat? = some r → RatL L .i64 w' vx r) ∧ (∀ r, y.rat? = some r → RatL L .i64 w' vy r)
theorem InPost.res {L : Nat → Prop} {x : FracA} {w : World} {e : Ending} {w' : World} (h : InPost L x w e w') : Le w w' ∧ ∃ v, e = .returned (.tuple #[v, .bool (okA x)]) ∧ qHs v ∧ ∀ r, x.rat? = some r → RatL L .i64 w' v r := by
 obtain ⟨hle, ⟨r, hr, v, rfl, hv⟩ | ⟨hr, rfl⟩⟩ := h
 ·refine ⟨hle, v, by unfold okA; rw [hr]; rfl, hv.qform, fun r' hr' => ?_⟩
  rw [hr] at hr'
  injection hr' with hr'
  subst hr'
  exact hv
 ·exact ⟨hle, qC6, by unfold okA; rw [hr]; rfl, ⟨_, _, _, _, _, _, _, rfl⟩, fun r' hr' => by rw [hr] at hr'; cases hr'⟩
theorem RatL.box3 {L : Nat → Prop} {k : IntKind} {W : World} {v u0 u1 u2 : Value} {b0 : Bool} {A1 A2 : Option Addr} {n1 c1 n2 c2 B : Nat} {r : Rat} {t : TypeId} (h : RatL L k W v r) (hk : W.heap[B]? = some (Obj.cells #[.bool b0, .slice A1 n1 c1, .slice A2 n2 c2] t)) :
  RatL L k (((W.setCell ⟨B, 0, none⟩ u0).setCell ⟨B, 1, none⟩ u1).setCell ⟨B, 2, none⟩ u2) v r := by
 obtain ⟨vn, vd, e, h1, h2⟩ := h
 exact ⟨vn, vd, e, h1.box3 hk, h2.box3 hk⟩
theorem qK5 (L L2 : Nat → Prop) (x y : FracA) (va vb : Value) (w : World) (hL : Up w L) (h1 : IsFracA L2 w va x) (h2 : IsFracA L2 w vb y) :
  Calls Tryz.prog 55 #[va, vb] w (qIT L x y w) := by
 have hx0 := h1
 have hy0 := h2
 obtain ⟨A, c, B, d, rfl, p1, p2⟩ := h1
 obtain ⟨A2, c2, B2, d2, rfl, q1, q2⟩ := h2
 obtain ⟨W0, hW0, hsz, hle, k0, k1, k2, k3⟩ := qGw w (.cells #[.bool x.sn, .slice A x.gn.length c, .bool x.sd, .slice B x.gd.length d] 27) (.cells #[.bool y.sn, .slice A2 y.gn.length c2, .bool y.sd, .slice B2 y.gd.length d2] 27) (.cells #[.bool false, .slice none 0 0, .slice none 0 0] 59) (.cells #[.bool false, .slice none 0 0, .slice none 0 0] 59)
 have r1 := qGv L L2 x _ W0 (hL.le hle) (hx0.le hle)
 obtain ⟨z0, z1, z2, z3⟩ := qAM k0
 have ⟨hL', hx0', hy0', p1', p2', q1', q2', hle'⟩ := hyd8 hL hx0 hy0 p1 p2 q1 q2 hle
 have ⟨k0', k1', k2', k3', r1'⟩ := hyd5 k0 k1 k2 k3 r1
 clear r1 k3 k2 k1 k0 hle q2 q1 p2 p1 hy0 hx0 hL
 go_enter Tryz.func55, Tryz.ntmps55
 go_wp2_with (fail)
 clear hW0
 go_at_call 98
 refine r1'.out.mono ?_
 rintro e W1 hin
 obtain ⟨hle1, v1, rfl, ⟨s1, Q1, n1, e1, Q2, n2, e2, rfl⟩, hr1⟩ := hin.res
 obtain ⟨b1, hb1⟩ : ∃ b1, okA x = b1 := ⟨_, rfl⟩
 rw [hb1]
 clear z0 z1 z2 z3 hin
 obtain ⟨W2, hW2, hle2, kx⟩ := al1 W1 (.cells #[.bool s1, .slice Q1 n1 e1, .slice Q2 n2 e2] 59)
 have hl2 := hle1.trans hle2
 have k1b := (hl2.block _ (by omega)).trans k1'.out
 have k2b := (hl2.block _ (by omega)).trans k2'.out
 have k3b := (hl2.block _ (by omega)).trans k3'.out
 have r2 := qGv L L2 y _ W2 (hL'.out.le (hle'.out.trans hl2)) (hy0'.out.le (hle'.out.trans hl2))
 obtain ⟨y0, y1, y2, y3⟩ := qAM k1b
 have hsz1 := hle1.size
 have ⟨hle1', hr1', hb1', hle2', kx', hl2', k1b', k2b'⟩ := hyd8 hle1 hr1 hb1 hle2 kx hl2 k1b k2b
 have ⟨k3b', r2'⟩ := hyd2 k3b r2
 clear r2 k3b k2b k1b hl2 kx hle2 hb1 hr1 hle1
 go_wp2_with (fail)
 clear hW2
 go_at_call 98
 refine r2'.out.mono ?_
 rintro e W3 hin
 obtain ⟨hle3, v2, rfl, ⟨s2, Q3, n3, e3, Q4, n4, e4, rfl⟩, hr2⟩ := hin.res
 obtain ⟨b2, hb2⟩ : ∃ b2, okA y = b2 := ⟨_, rfl⟩
 rw [hb2]
 clear y0 y1 y2 y3 hin
 obtain ⟨W4, hW4, hle4, ky⟩ := al1 W3 (.cells #[.bool s2, .slice Q3 n3 e3, .slice Q4 n4 e4] 59)
 have hl4 := hle3.trans hle4
 have k2c := (hl4.block _ (by have := hle2'.out.size; omega)).trans k2b'.out
 have k3c := (hl4.block _ (by have := hle2'.out.size; omega)).trans k3b'.out
 have kx4 := (hl4.block _ (gsl kx'.out)).trans kx'.out
 obtain ⟨x0, x1, x2, -⟩ := qAD kx4
 obtain ⟨y0, y1, y2, -⟩ := qAD ky
 obtain ⟨z0, z1, z2, f0, f1, f2⟩ := qAD k2c
 obtain ⟨u0, u1, u2, g0, g1, g2⟩ := qAD k3c
 have hall := hle'.out.trans (hl2'.out.trans hl4)
 have ⟨hle3', hr2', hb2', hle4', ky', hl4', k2c', k3c'⟩ := hyd8 hle3 hr2 hb2 hle4 ky hl4 k2c k3c
 have ⟨kx4', hall'⟩ := hyd2 kx4 hall
 clear hall kx4 k3c k2c hl4 ky hle4 hb2 hr2 hle3
 go_wp2_with (fail)
 clear hW4
 have s12 := hle2'.out.size
 have s3 := hle3'.out.size
 have m1 : ¬ W3.heap.size = w.heap.size + 1 + 1 := by omega
 have m2 : ¬ W3.heap.size = w.heap.size + 1 + 1 + 1 := by omega
 have m3 : ¬ w.heap.size + 1 + 1 = W3.heap.size := by omega
 have m4 : ¬ w.heap.size + 1 + 1 + 1 = W3.heap.size := by omega
 have m5 : ¬ W1.heap.size = w.heap.size + 1 + 1 := by omega
 have m6 : ¬ W1.heap.size = w.heap.size + 1 + 1 + 1 := by omega
 have m7 : ¬ w.heap.size + 1 + 1 = W1.heap.size := by omega
 have m8 : ¬ w.heap.size + 1 + 1 + 1 = W1.heap.size := by omega
 obtain ⟨V, hV, hleV, kV2, kV3, hrV1, hrV2⟩ : ∃ V, ((((((W4.setCell ⟨w.heap.size + 1 + 1, 0, none⟩ (.bool s1)).setCell ⟨w.heap.size + 1 + 1, 1, none⟩ (.slice Q1 n1 e1)).setCell ⟨w.heap.size + 1 + 1, 2, none⟩ (.slice Q2 n2 e2)).setCell ⟨w.heap.size + 1 + 1 + 1, 0, none⟩ (.bool s2)).setCell ⟨w.heap.size + 1 + 1 + 1, 1, none⟩ (.slice Q3 n3 e3)).setCell ⟨w.heap.size + 1 + 1 + 1, 2, none⟩ (.slice Q4 n4 e4)).drew = V ∧ Le w V ∧ V.heap[w.heap.size + 1 + 1]? = some (.cells #[.bool s1, .slice Q1 n1 e1, .slice Q2 n2 e2] 59) ∧ V.heap[w.heap.size + 1 + 1 + 1]? = some (.cells #[.bool s2, .slice Q3 n3 e3, .slice Q4 n4 e4] 59) ∧
   (∀ r, x.rat? = some r → RatL L .i64 V (.agg #[.bool s1, .slice Q1 n1 e1, .slice Q2 n2 e2]) r) ∧ (∀ r, y.rat? = some r → RatL L .i64 V (.agg #[.bool s2, .slice Q3 n3 e3, .slice Q4 n4 e4]) r) := by
  have j1 := qAY (u0 := .bool s1) (u1 := .slice Q1 n1 e1) (u2 := .slice Q2 n2 e2) k2c'.out
  have j2 := (Below.heap_setCell ((W4.setCell ⟨w.heap.size + 1 + 1, 0, none⟩ (.bool s1)).setCell ⟨w.heap.size + 1 + 1, 1, none⟩ (.slice Q1 n1 e1)) ⟨w.heap.size + 1 + 1, 2, none⟩ (.slice Q2 n2 e2) (w.heap.size + 1 + 1 + 1) (show w.heap.size + 1 + 1 + 1 ≠ w.heap.size + 1 + 1 by omega)).trans ((Below.heap_setCell (W4.setCell ⟨w.heap.size + 1 + 1, 0, none⟩ (.bool s1)) ⟨w.heap.size + 1 + 1, 1, none⟩ (.slice Q1 n1 e1) (w.heap.size + 1 + 1 + 1) (show w.heap.size + 1 + 1 + 1 ≠ w.heap.size + 1 + 1 by omega)).trans ((Below.heap_setCell W4 ⟨w.heap.size + 1 + 1, 0, none⟩ (.bool s1) (w.heap.size + 1 + 1 + 1) (show w.heap.size + 1 + 1 + 1 ≠ w.heap.size + 1 + 1 by omega)).trans k3c'.out))
  have hle5 := qA8 (u0 := .bool s1) (u1 := .slice Q1 n1 e1) (u2 := .slice Q2 n2 e2) hall'.out (show w.heap.size ≤ w.heap.size + 1 + 1 by omega)
  have hrA : ∀ r, x.rat? = some r → RatL L .i64 _ (.agg #[.bool s1, .slice Q1 n1 e1, .slice Q2 n2 e2]) r := fun r hr => RatL.box3 (u0 := .bool s1) (u1 := .slice Q1 n1 e1) (u2 := .slice Q2 n2 e2) ((hr1'.out r hr).le (hle2'.out.trans hl4'.out)) k2c'.out
  have hrB : ∀ r, y.rat? = some r → RatL L .i64 _ (.agg #[.bool s2, .slice Q3 n3 e3, .slice Q4 n4 e4]) r := fun r hr => RatL.box3 (u0 := .bool s1) (u1 := .slice Q1 n1 e1) (u2 := .slice Q2 n2 e2) ((hr2'.out r hr).le hle4'.out) k2c'.out
  generalize ((W4.setCell ⟨w.heap.size + 1 + 1, 0, none⟩ (.bool s1)).setCell ⟨w.heap.size + 1 + 1, 1, none⟩ (.slice Q1 n1 e1)).setCell ⟨w.heap.size + 1 + 1, 2, none⟩ (.slice Q2 n2 e2) = V1 at *
  have j3 := qAY (u0 := .bool s2) (u1 := .slice Q3 n3 e3) (u2 := .slice Q4 n4 e4) j2
  have hle6 := qA8 (u0 := .bool s2) (u1 := .slice Q3 n3 e3) (u2 := .slice Q4 n4 e4) hle5 (show w.heap.size ≤ w.heap.size + 1 + 1 + 1 by omega)
  have j4 := (Below.heap_setCell ((V1.setCell ⟨w.heap.size + 1 + 1 + 1, 0, none⟩ (.bool s2)).setCell ⟨w.heap.size + 1 + 1 + 1, 1, none⟩ (.slice Q3 n3 e3)) ⟨w.heap.size + 1 + 1 + 1, 2, none⟩ (.slice Q4 n4 e4) (w.heap.size + 1 + 1) (show w.heap.size + 1 + 1 ≠ w.heap.size + 1 + 1 + 1 by omega)).trans ((Below.heap_setCell (V1.setCell ⟨w.heap.size + 1 + 1 + 1, 0, none⟩ (.bool s2)) ⟨w.heap.size + 1 + 1 + 1, 1, none⟩ (.slice Q3 n3 e3) (w.heap.size + 1 + 1) (show w.heap.size + 1 + 1 ≠ w.heap.size + 1 + 1 + 1 by omega)).trans ((Below.heap_setCell V1 ⟨w.heap.size + 1 + 1 + 1, 0, none⟩ (.bool s2) (w.heap.size + 1 + 1) (show w.heap.size + 1 + 1 ≠ w.heap.size + 1 + 1 + 1 by omega)).trans j1))
  refine ⟨_, rfl, hle6.trans Le.drew, j4, j3, fun r hr => ?_, fun r hr => ?_⟩
  ·exact (RatL.box3 (u0 := .bool s2) (u1 := .slice Q3 n3 e3) (u2 := .slice Q4 n4 e4) (hrA r hr) j2).le Le.drew
  ·exact (RatL.box3 (u0 := .bool s2) (u1 := .slice Q3 n3 e3) (u2 := .slice Q4 n4 e4) (hrB r hr) j2).le Le.drew
 obtain ⟨d0, d1, d2, -⟩ := qAD kV2
 obtain ⟨d3, d4, d5, -⟩ := qAD kV3
 have ⟨hV', hleV', kV2', kV3', hrV1', hrV2'⟩ := hyd6 hV hleV kV2 kV3 hrV1 hrV2
 clear hrV2 hrV1 kV3 kV2 hleV hV
 cases b1
 all_goals
  go_region
  rw [hV'.out]
  clear x0 x1 x2 y0 y1 y2 z0 z1 z2 f0 f1 f2 u0 u1 u2 g0 g1 g2
  go_wp2
 ·exact bodyPost_ret (v := .tuple #[.agg #[.bool s1, .slice Q1 n1 e1, .slice Q2 n2 e2], .agg #[.bool s2, .slice Q3 n3 e3, .slice Q4 n4 e4], .bool false]) (by simp [results, Tryz.results55, go_sem, d0, d1, d2, d3, d4, d5]) rfl ⟨hleV'.out, _, _, by rw [hb1'.out, Bool.false_and], ⟨_, _, _, _, _, _, _, rfl⟩, ⟨_, _, _, _, _, _, _, rfl⟩, hrV1'.out, hrV2'.out⟩
 ·exact bodyPost_ret (v := .tuple #[.agg #[.bool s1, .slice Q1 n1 e1, .slice Q2 n2 e2], .agg #[.bool s2, .slice Q3 n3 e3, .slice Q4 n4 e4], .bool b2]) (by simp [results, Tryz.results55, go_sem, d0, d1, d2, d3, d4, d5]) rfl ⟨hleV'.out, _, _, by rw [hb1'.out, hb2'.out, Bool.true_and], ⟨_, _, _, _, _, _, _, rfl⟩, ⟨_, _, _, _, _, _, _, rfl⟩, hrV1'.out, hrV2'.out⟩
def IsRes (L : Nat → Prop) (w : World) (v : Value) (c : Int) : Except Int Rat → Prop
 | .ok r => FracL L w v r ∧ c = 0
 | .error x => v = qCR ∧ c = x
def qJN (L : Nat → Prop) (res : Except Int Rat) (w : World) (e : Ending) (w' : World) : Prop := Le w w' ∧ ∃ v c, e = .returned (.tuple #[v, .int .i64 c]) ∧ IsRes L w' v c res
open Classical in
noncomputable def outR (r : Rat) : Except Int Rat := if Rsz r 40 then .ok r else .error 12
noncomputable def opR (f : Rat → Rat → Except Int Rat) (x y : FracA) : Except Int Rat :=
 match x.rat?, y.rat? with
 | some a, some b => f a b
 | _, _ => .error 10
noncomputable def cmpV (x y : FracA) : Int :=
 match x.rat?, y.rat? with
 | some a, some b => rsgn (a - b)
 | _, _ => 0
noncomputable def okE (b : Bool) : Int := if b then 0 else 10
theorem qH0 {x y : FracA} {a b : Rat} (h1 : x.rat? = some a) (h2 : y.rat? = some b) : cmpV x y = rsgn (a - b) := by unfold cmpV; rw [h1, h2]
theorem qK6 {x y : FracA} (h : (okA x && okA y) = false) : cmpV x y = 0 := by
 unfold cmpV
 unfold okA at h
 cases h1 : x.rat? with
 | none => rfl
 | some a =>
  cases h2 : y.rat? with
  | none => rfl
  | some b => rw [h1, h2] at h; cases h
theorem qJO {r : Rat} (h : Rsz r 40) : outR r = .ok r := by unfold outR; rw [if_pos h]
theorem qJP {r : Rat} (h : ¬ Rsz r 40) : outR r = .error 12 := by unfold outR; rw [if_neg h]
def qLR (v : Value) : Prop := ∃ s A n c s' B m d, v = .agg #[.bool s, .slice A n c, .bool s', .slice B m d]
theorem IsRes.form {L : Nat → Prop} {w : World} {v : Value} {c : Int} {res : Except Int Rat} (h : IsRes L w v c res) : qLR v := by
 cases res with
 | ok r => obtain ⟨⟨A, c, B, d, rfl, -, -⟩, -⟩ := h; exact ⟨_, _, _, _, _, _, _, _, rfl⟩
 | error x => obtain ⟨rfl, -⟩ := h; exact ⟨_, _, _, _, _, _, _, _, rfl⟩
theorem FracL.box4 {L : Nat → Prop} {W : World} {v u0 u1 u2 u3 : Value} {b0 b1 : Bool} {A1 A2 : Option Addr} {n1 c1 n2 c2 B : Nat} {r : Rat} {t : TypeId} (h : FracL L W v r) (hk : W.heap[B]? = some (Obj.cells #[.bool b0, .slice A1 n1 c1, .bool b1, .slice A2 n2 c2] t)) :
  FracL L ((((W.setCell ⟨B, 0, none⟩ u0).setCell ⟨B, 1, none⟩ u1).setCell ⟨B, 2, none⟩ u2).setCell ⟨B, 3, none⟩ u3) v r := by
 obtain ⟨A, c, B', d, e, h1, h2⟩ := h
 exact ⟨A, c, B', d, e, h1.box4 hk, h2.box4 hk⟩
theorem FracA.sz {x : FracA} {r : Rat} (h : x.rat? = some r) : Rsz r 40 := (FracA.val h).sz
theorem Rsz.up {r : Rat} {m n : Nat} (h : Rsz r m) (hmn : m ≤ n) : Rsz r n := ⟨Nat.le_trans h.1 hmn, Nat.le_trans h.2 hmn⟩
theorem qDG (L : Nat → Prop) (z : Int) (w : World) (hL : Up w L) (hz0 : -9223372036854775808 ≤ z) (hz1 : z ≤ 9223372036854775807) :
  Calls Tryz.prog 32 #[.int .i64 z] w fun e w' => ∃ v, e = .returned v ∧ Le w w' ∧ FracL L w' v (z : Rat) := by
 have hszr : Rsz (z : Rat) 40 := ⟨Nat.le_trans (qBm (N := z.natAbs) (by omega)) (by decide), by rw [show (z : Rat).den = 1 from rfl, qCU]; simp⟩
 have ⟨hL', hszr'⟩ := hyd2 hL hszr
 clear hszr hL
 go_enter Tryz.func32, Tryz.ntmps32
 go_wp2_with (fail)
 go_at_call 25
 refine (qDO L z _ (hL'.out.le (qAA _ _)) hz0 hz1).mono ?_
 rintro e W1 ⟨v1, rfl, hle1, hr⟩
 obtain ⟨hle1, hbx⟩ := qB4 hle1
 have hr0 := hr
 obtain ⟨A1, c1, A2, c2, rfl, -, -⟩ := hr.form
 have hU1 := hL'.out.le hle1
 have ⟨hle1', hr', hr0', hbx', hU1'⟩ := hyd5 hle1 hr hr0 hbx hU1
 clear hU1 hbx hr0 hr hle1
 go_wp2_with (fail)
 go_at_call 77
 refine (qFm L L (z : Rat) _ W1 hU1'.out hr0'.out).mono ?_
 rintro e W2 hout
 obtain ⟨hle2, ⟨-, v2, rfl, hv⟩ | ⟨hs, -⟩⟩ := hout
 ·have hv0 := hv
  obtain ⟨A3, c3, A4, c4, rfl, -, -⟩ := hv
  obtain ⟨W3, hW3, hle3, kx⟩ := al1 W2 (.cells #[.bool (rneg (z : Rat)), .slice A3 (dg (rnum (z : Rat))).length c3, .bool false, .slice A4 (dg (z : Rat).den).length c4] 27)
  have hv3 := hv0.le hle3
  have hbx3 := ((hle2.trans hle3).block _ (gsl hbx'.out)).trans hbx'.out
  have hle9 := fun u0 u1 u2 u3 => qCM (u0 := u0) (u1 := u1) (u2 := u2) (u3 := u3) (hle1'.out.trans (hle2.trans hle3)) (Nat.le_refl _)
  have hb9 := fun u0 u1 u2 u3 => qAM (qBn (u0 := u0) (u1 := u1) (u2 := u2) (u3 := u3) hbx3)
  have hfin := fun u0 u1 u2 u3 => FracL.box4 (u0 := u0) (u1 := u1) (u2 := u2) (u3 := u3) hv3 hbx3
  obtain ⟨x0, x1, x2, x3⟩ := qAM kx
  obtain ⟨z0, z1, z2, z3⟩ := qAM hbx3
  have ⟨g0, g1, g2, g3⟩ := frz4 hbx3
  obtain ⟨sr, hsr⟩ : ∃ sr, rneg (z : Rat) = sr := ⟨_, rfl⟩
  obtain ⟨l1, hl1⟩ : ∃ l1, (dg (rnum (z : Rat))).length = l1 := ⟨_, rfl⟩
  obtain ⟨l2, hl2⟩ : ∃ l2, (dg (z : Rat).den).length = l2 := ⟨_, rfl⟩
  rw [hsr] at x0
  rw [hl1] at x1
  rw [hl2] at x3
  rw [hsr, hl1, hl2] at hfin hW3 ⊢
  have ⟨hle2', hv0', hv3', hle3', kx', hbx3', hle9', hb9'⟩ := hyd8 hle2 hv0 hv3 hle3 kx hbx3 hle9 hb9
  have ⟨hfin', hsr', hl1', hl2'⟩ := hyd4 hfin hsr hl1 hl2
  clear hl2 hl1 hsr hfin hb9 hle9 hbx3 kx hle3 hv3 hv0 hle2
  go_wp2
  obtain ⟨d0, d1, d2, d3⟩ := hb9'.out (.bool sr) (.slice A3 l1 c3) (.bool false) (.slice A4 l2 c4)
  exact bodyPost_ret (v := .agg #[.bool sr, .slice A3 l1 c3, .bool false, .slice A4 l2 c4]) (by simp [results, Tryz.results32, go_sem, d0, d1, d2, d3]) rfl ⟨_, rfl, hle9'.out _ _ _ _, hfin'.out _ _ _ _⟩
 ·exact absurd hszr'.out hs
end Go.Proofs.YtlhfonhbbpbmpaaGreat
namespace Go.Proofs.YtlhfonhbbpbmpaaGreat
set_option maxRecDepth 100000
set_option maxHeartbeats 4000000
open Go.RowKit Go.Shelf
set_option linter.unusedVariables false
set_option linter.unusedSimpArgs false
noncomputable def qED (r : Rat) : FracA := ⟨rneg r, dg (rnum r), false, dg r.den⟩
def qJk : FracA := ⟨false, [], false, []⟩
theorem FracL.isA {L : Nat → Prop} {w : World} {v : Value} {r : Rat} (h : FracL L w v r) : IsFracA L w v (qED r) := by
 obtain ⟨A, c, B, d, rfl, h1, h2⟩ := h
 exact ⟨A, c, B, d, rfl, h1.1, h2.1⟩
theorem qH1 (L : Nat → Prop) (w : World) : IsFracA L w (.agg #[.bool false, .slice none 0 0, .bool false, .slice none 0 0]) qJk :=
 ⟨none, 0, none, 0, rfl, ⟨none, 0, rfl, Nat.le_refl _, by decide, by decide, fun h => absurd h (Nat.lt_irrefl 0)⟩, ⟨none, 0, rfl, Nat.le_refl _, by decide, by decide, fun h => absurd h (Nat.lt_irrefl 0)⟩⟩
theorem qH2 {neg : Bool} {n : Nat} (h : (dg n).length ≤ 40) (hz : n = 0 → neg = false) : isW neg (dg n) = true := by
 unfold isW
 have hany : ((dg n).any fun g => decide (1000000000 ≤ g)) = false := by
  rw [List.any_eq_false]
  intro x hx
  have := qAX n x hx
  rw [qAT] at this
  simp; omega
 rw [hany, decide_eq_true h]
 by_cases h0 : (dg n).length = 0
 ·have hn : n = 0 := by rw [← qA3 n, List.eq_nil_of_length_eq_zero h0]; rfl
  rw [if_pos h0, hz hn]
  rfl
 ·rw [if_neg h0]
  have := qDS (n := n) (by omega)
  rw [qA6 (by omega)]
  simp; omega
theorem qD2 {r : Rat} (h : Rsz r 40) : (qED r).rat? = some r := by
 have h1 : isW (rneg r) (dg (rnum r)) = true := qH2 h.1 qJ5
 have h2 : isW false (dg r.den) = true := qH2 h.2 fun _ => rfl
 have h3 : (dg r.den).length ≠ 0 := fun h0 => by
  have : r.den = 0 := by rw [← qA3 r.den, List.eq_nil_of_length_eq_zero h0]; rfl
  exact r.den_nz this
 unfold FracA.rat? FracA.ok qED
 simp only
 rw [h1, h2, qA3, qA3]
 rw [if_pos ⟨by simp; omega, r.reduced⟩, qHy]
theorem qIU {r : Rat} (h : Rsz r 40) : okA (qED r) = true := by unfold okA; rw [qD2 h]; rfl
end Go.Proofs.YtlhfonhbbpbmpaaGreat

