/- exact: run at api.Frac: the deferred closure, a call that returns, a call that reports an error. -/
import Derived.Test.YtlhfonhbbpbmpaaGreatOutR
import Derived.Defers
import Derived.Recover
namespace Go.Proofs.YtlhfonhbbpbmpaaGreat
set_option maxRecDepth 100000
open Go.RowKit Go.Shelf
set_option linter.unusedVariables false
set_option linter.unusedSimpArgs false
set_option maxRecDepth 10000
theorem qHh (p q : Addr) (w : World) :
  CallsD Tryz.prog 87 #[.pointer (some p), .pointer (some q)] .returning w fun e u' w' => e = .returned (.tuple #[]) ∧ u' = .returning ∧ w' = w := by
 refine callsD_of_wpS Tryz.func87 rfl fun c₀ cs hu => ?_
 apply wpS_seq
 apply wpS_region
 simp [wpOpsS, go_sem, recoverD, hu, Tryz.ntmps87, Exit.thenS]
 apply wpS_seq
 apply wpS_region
 simp [wpOpsS, go_sem, recoverD, hu, Tryz.ntmps87, Exit.thenS]
 refine wpS_cond (t := false) (by simp [Act.eval, Array.replicate]) ?_
 simp only [Bool.false_eq_true, if_false]
 refine wpS_of_wp (wp_skip ?_)
 cases c₀
 simp_all [bodyPostS, results, Tryz.results87]
theorem qGU (B : Nat) (e : Int) (s0 s2 : Bool) (A1 A3 : Option Addr) (l1 l3 k1 k3 : Nat) (b : Value) (tp tq : TypeId) (w : World) (hb : w.heap[B]? = some (.cells #[.bool s0, .slice A1 l1 k1, .bool s2, .slice A3 l3 k3] tp)) (hq : w.heap[B + 1]? = some (.cells #[b] tq)) :
  CallsD Tryz.prog 87 #[.pointer (some ⟨B, 0, none⟩), .pointer (some ⟨B + 1, 0, none⟩)] (.panicking [{ v := .iface 134 (.agg #[.int .i64 e]), recovered := false }]) w fun E u' w' => E = .returned (.tuple #[]) ∧ u' = .panicking [{ v := .iface 134 (.agg #[.int .i64 e]), recovered := true }] ∧
   w'.heap[B]? = some (.cells #[.bool false, .slice none 0 0, .bool false, .slice none 0 0] tp) ∧ w'.cell? ⟨B + 1, 0, none⟩ = some (.int .i64 e) ∧ ∀ w0, Le w0 w → w0.heap.size ≤ B → Le w0 w' := by
 refine callsD_of_wpS Tryz.func87 rfl fun c₀ cs hu => ?_
 apply wpS_seq
 apply wpS_region
 simp [wpOpsS, go_sem, recoverD, hu, Tryz.ntmps87, Exit.thenS]
 apply wpS_seq
 apply wpS_region
 simp [wpOpsS, go_sem, recoverD, hu, Tryz.ntmps87, Exit.thenS]
 refine wpS_cond (t := true) (by simp [Act.eval, Array.replicate]) ?_
 simp only [if_true]
 refine wpS_of_wp ?_
 have hta : ∀ W : World, (Instr.typeAssert (Value.iface 134 (Value.agg #[Value.int IntKind.i64 e])) 20 134 true).run Tryz.prog W = .ok (.tuple #[.agg #[.int .i64 e], .bool true]) W := fun _ => by kernel_rfl
 have harr : ∀ a b c d e f g h : Value, #[a, b] ++ ((((((Array.replicate 18 undef).setIfInBounds 4 c).setIfInBounds 0 d).setIfInBounds 5 e).setIfInBounds 6 f)) = #[a, b, d, undef, undef, undef, c, e, f, undef, undef, undef, undef, undef, undef, undef, undef, undef, undef, undef] := fun _ _ _ _ _ _ _ _ => by first | kernel_rfl | simp [Array.replicate_succ]
 rw [harr _ _ _ _ _ _ undef undef]
 go_wp2
 obtain ⟨hle, hk, hk2⟩ := qAp (Le.refl ((w.alloc (.cells #[.int .i64 e] 134)).alloc (.cells #[.bool false, .slice none 0 0, .bool false, .slice none 0 0] 27)))
 generalize hW : (w.alloc (.cells #[.int .i64 e] 134)).alloc (.cells #[.bool false, .slice none 0 0, .bool false, .slice none 0 0] 27) = W at *
 have hb2 := (Below.block hle B (gsl hb)).trans hb
 have hq2 := (Below.block hle (B + 1) (gsl hq)).trans hq
 have hBl := (gsl hb)
 have hql := (gsl hq)
 obtain ⟨c10, c11, c12, c13⟩ := qAM hb2
 have ⟨f10, f11, f12, f13⟩ := frz4 hb2
 have c2 := qAF hq2
 have f2 := fz0 hq2 0
 have c3 := qAF hk
 obtain ⟨c40, c41, c42, c43⟩ := qAM hk2
 have n1 : ¬ w.heap.size = B := by omega
 have n2 : ¬ w.heap.size = B + 1 := by omega
 have n3 : ¬ B = w.heap.size := by omega
 have n4 : ¬ B + 1 = w.heap.size := by omega
 have n5 : ¬ B + 1 = B := by omega
 have n6 : ¬ w.heap.size + 1 = B := by omega
 have n7 : ¬ w.heap.size + 1 = B + 1 := by omega
 have n8 : ¬ B = w.heap.size + 1 := by omega
 have ⟨hW', hle', hk', hk2', hb', hq', hb2', hq2'⟩ := hyd8 hW hle hk hk2 hb hq hb2 hq2
 have hu' := hyd1 hu
 clear hu hq2 hb2 hq hb hk2 hk hle hW
 go_region
 have h1 := qBn hb2'.out (u0 := .bool false) (u1 := .slice none 0 0) (u2 := .bool false) (u3 := .slice none 0 0)
 have hne : B + 1 ≠ B := by omega
 have h2 : ((((W.setCell ⟨B, 0, none⟩ (.bool false)).setCell ⟨B, 1, none⟩ (.slice none 0 0)).setCell ⟨B, 2, none⟩ (.bool false)).setCell ⟨B, 3, none⟩ (.slice none 0 0)).heap[B + 1]? = some (.cells #[b] tq) := ((Below.heap_setCell _ _ _ _ hne).trans ((Below.heap_setCell _ _ _ _ hne).trans ((Below.heap_setCell _ _ _ _ hne).trans (Below.heap_setCell _ _ _ _ hne)))).trans hq2'.out
 have hle8 : ∀ w0, Le w0 w → w0.heap.size ≤ B → Le w0 ((((W.setCell ⟨B, 0, none⟩ (.bool false)).setCell ⟨B, 1, none⟩ (.slice none 0 0)).setCell ⟨B, 2, none⟩ (.bool false)).setCell ⟨B, 3, none⟩ (.slice none 0 0)) := fun w0 h0 h5 => qCM (Le.trans h0 hle'.out) h5
 generalize ((((W.setCell ⟨B, 0, none⟩ (.bool false)).setCell ⟨B, 1, none⟩ (.slice none 0 0)).setCell ⟨B, 2, none⟩ (.bool false)).setCell ⟨B, 3, none⟩ (.slice none 0 0)) = V1 at *
 have h3 := qA5 h2 (u := .int .i64 e)
 have h4 : (V1.setCell ⟨B + 1, 0, none⟩ (.int .i64 e)).heap[B]? = _ := (Below.heap_setCell _ _ _ _ (by show B ≠ B + 1; omega)).trans h1
 have hle9 : ∀ w0, Le w0 w → w0.heap.size ≤ B → Le w0 (V1.setCell ⟨B + 1, 0, none⟩ (.int .i64 e)).drew := fun w0 h0 h5 =>
  Le.trans ((hle8 w0 h0 h5).setCell (p := ⟨B + 1, 0, none⟩) (by show w0.heap.size ≤ B + 1; omega) _) Le.drew
 have d1 : (V1.setCell ⟨B + 1, 0, none⟩ (.int .i64 e)).drew.heap[B]? = _ := h4
 have d2 : (V1.setCell ⟨B + 1, 0, none⟩ (.int .i64 e)).drew.cell? ⟨B + 1, 0, none⟩ = _ := qAF h3
 generalize (V1.setCell ⟨B + 1, 0, none⟩ (.int .i64 e)).drew = V at *
 show bodyPostS _ _ _ _ _ _ _ _ _
 simp [bodyPostS, results, Tryz.results87, go_sem, d1, d2]
 exact hle9
theorem FracL.set {L : Nat → Prop} {W : World} {v u x : Value} {r : Rat} {k : Nat} {t : TypeId} (h : FracL L W v r) (hk : W.heap[k]? = some (.cells #[x] t)) (hx : ∀ g : Nat, x ≠ gv .u32 g) : FracL L (W.setCell ⟨k, 0, none⟩ u) v r := by
 obtain ⟨A, c, B, d, e, h1, h2⟩ := h
 exact ⟨A, c, B, d, e, h1.box_set hk hx, h2.box_set hk hx⟩
theorem qGx (L : Nat → Prop) (r : Rat) (g : FuncId) (cap : Array Value) (w : World) (hg : qA7 Tryz.prog g) (hf : ∀ W, Le w W → Calls Tryz.prog g cap W fun e W' => ∃ v, e = .returned v ∧ Le W W' ∧ FracL L W' v r) :
  Calls Tryz.prog 43 #[.func (.func g) #[] cap] w fun e w' => ∃ v, e = .returned (.tuple #[v, .int .i64 0]) ∧ Le w w' ∧ FracL L w' v r := by
 have hmf : ∀ (fn : Fn) (first cap : Array Value) (w : World), (Instr.makeFunc fn first cap).run Tryz.prog w = .ok (.func fn first cap) w := fun _ _ _ _ => rfl
 unfold qA7 at hg
 go_enter_defers Tryz.func43, Tryz.ntmps43
 go_wp2_with (fail)
 refine (hf _ ((qAA _ _).trans (qAA _ _))).mono ?_
 rintro e W ⟨v, rfl, hle, hfr⟩
 obtain ⟨A1, c1, A2, c2, rfl, y1, y2⟩ := hfr
 obtain ⟨hle1, hb, hq⟩ := qAp hle
 obtain ⟨c10, c11, c12, c13⟩ := qAM hb
 have ⟨f10, f11, f12, f13⟩ := frz4 hb
 have e2 := qAF hq
 have f2 := fz0 hq 0
 have hBl := (gsl hb)
 have hql := (gsl hq)
 obtain ⟨s, hs⟩ : ∃ s, rneg r = s := ⟨_, rfl⟩
 rw [hs]
 have ⟨hle', hle1', hb', hq', y1', y2', hs'⟩ := hyd7 hle hle1 hb hq y1 y2 hs
 clear hs y2 y1 hq hb hle1 hle
 go_wp2
 have h1 := qBn hb'.out (u0 := .bool s) (u1 := .slice A1 (dg (rnum r)).length c1) (u2 := .bool false) (u3 := .slice A2 (dg r.den).length c2)
 have hne : w.heap.size + 1 ≠ w.heap.size := by omega
 have h2 : ((((W.setCell ⟨w.heap.size, 0, none⟩ (.bool s)).setCell ⟨w.heap.size, 1, none⟩ (.slice A1 (dg (rnum r)).length c1)).setCell ⟨w.heap.size, 2, none⟩ (.bool false)).setCell ⟨w.heap.size, 3, none⟩ (.slice A2 (dg r.den).length c2)).heap[w.heap.size + 1]? = _ := ((Below.heap_setCell _ _ _ _ hne).trans ((Below.heap_setCell _ _ _ _ hne).trans ((Below.heap_setCell _ _ _ _ hne).trans (Below.heap_setCell _ _ _ _ hne)))).trans hq'.out
 have hle8 : Le w ((((W.setCell ⟨w.heap.size, 0, none⟩ (.bool s)).setCell ⟨w.heap.size, 1, none⟩ (.slice A1 (dg (rnum r)).length c1)).setCell ⟨w.heap.size, 2, none⟩ (.bool false)).setCell ⟨w.heap.size, 3, none⟩ (.slice A2 (dg r.den).length c2)) := qCM hle1'.out (Nat.le_refl _)
 have hfr : FracL L ((((W.setCell ⟨w.heap.size, 0, none⟩ (.bool s)).setCell ⟨w.heap.size, 1, none⟩ (.slice A1 (dg (rnum r)).length c1)).setCell ⟨w.heap.size, 2, none⟩ (.bool false)).setCell ⟨w.heap.size, 3, none⟩ (.slice A2 (dg r.den).length c2)) (.agg #[.bool s, .slice A1 (dg (rnum r)).length c1, .bool false, .slice A2 (dg r.den).length c2]) r := ⟨_, _, _, _, by rw [hs'.out], y1'.out.box4 hb'.out, y2'.out.box4 hb'.out⟩
 generalize ((((W.setCell ⟨w.heap.size, 0, none⟩ (.bool s)).setCell ⟨w.heap.size, 1, none⟩ (.slice A1 (dg (rnum r)).length c1)).setCell ⟨w.heap.size, 2, none⟩ (.bool false)).setCell ⟨w.heap.size, 3, none⟩ (.slice A2 (dg r.den).length c2)) = V1 at *
 have h3 := qA5 h2 (u := .int .i64 0)
 have h4 : (V1.setCell ⟨w.heap.size + 1, 0, none⟩ (.int .i64 0)).heap[w.heap.size]? = _ := (Below.heap_setCell _ _ _ _ (by show w.heap.size ≠ w.heap.size + 1; omega)).trans h1
 have hle9 : Le w (V1.setCell ⟨w.heap.size + 1, 0, none⟩ (.int .i64 0)) := hle8.setCell (p := ⟨w.heap.size + 1, 0, none⟩) (by show w.heap.size ≤ w.heap.size + 1; omega) _
 have hfr9 := hfr.set (u := .int .i64 0) h2 (fun g => by unfold gv; simp)
 obtain ⟨d10, d11, d12, d13⟩ := qAM h4
 have d2 := qAF h3
 refine leaves_cons (f := 87) (args := #[.pointer (some ⟨w.heap.size, 0, none⟩), .pointer (some ⟨w.heap.size + 1, 0, none⟩)]) (by simp) (by simp [go_sem]) ?_
 refine (qHh _ _ _).mono ?_
 rintro e u' w'' ⟨rfl, rfl, rfl⟩
 simp [Leaves, settle, results, Tryz.results43, go_sem, d10, d11, d12, d13, d2]
 exact ⟨hle9, hfr9⟩
theorem qGV (x : Int) (g : FuncId) (cap : Array Value) (w : World) (hg : qA7 Tryz.prog g) (hf : ∀ W, Le w W → Calls Tryz.prog g cap W fun e W' => e = .panicked [{ v := .iface 134 (.agg #[.int .i64 x]), recovered := false }] ∧ Le W W') :
  Calls Tryz.prog 43 #[.func (.func g) #[] cap] w fun e w' => e = .returned (.tuple #[.agg #[.bool false, .slice none 0 0, .bool false, .slice none 0 0], .int .i64 x]) ∧ Le w w' := by
 have hmf : ∀ (fn : Fn) (first cap : Array Value) (w : World), (Instr.makeFunc fn first cap).run Tryz.prog w = .ok (.func fn first cap) w := fun _ _ _ _ => rfl
 unfold qA7 at hg
 go_enter_defers Tryz.func43, Tryz.ntmps43
 go_wp2_with (fail)
 refine (hf _ ((qAA _ _).trans (qAA _ _))).mono ?_
 rintro e W ⟨rfl, hle⟩
 obtain ⟨hle1, hb, hq⟩ := qAp hle
 have hle' := hyd1 hle
 clear hle
 go_wp2
 refine leaves_cons (f := 87) (args := #[.pointer (some ⟨w.heap.size, 0, none⟩), .pointer (some ⟨w.heap.size + 1, 0, none⟩)]) (by simp) (by simp [go_sem]) ?_
 refine (qGU w.heap.size x _ _ _ _ _ _ _ _ _ _ _ _ hb hq).mono ?_
 rintro e u' w'' ⟨rfl, rfl, d1, d2, hl⟩
 have hle9 := hl w hle1 (Nat.le_refl _)
 obtain ⟨d10, d11, d12, d13⟩ := qAM d1
 simp [Leaves, settle, results, Tryz.results43, go_sem, d10, d11, d12, d13, d2]
 exact hle9
end Go.Proofs.YtlhfonhbbpbmpaaGreat

