/- exact: run at turn and at api.Turn. -/
import Derived.Test.YtlhfonhbbpbmpaaGreatTurnKit
namespace Go.Proofs.YtlhfonhbbpbmpaaGreat
set_option maxRecDepth 100000
set_option maxHeartbeats 1000000
open Go.RowKit Go.Shelf
set_option linter.unusedVariables false
set_option linter.unusedSimpArgs false
theorem FracL.code {L : Nat → Prop} {W : World} {v u : Value} {r : Rat} {B : Nat} {t : TypeId} (h : FracL L W v r) (hk : ∃ x : Value, W.heap[B]? = some (.cells #[x] t) ∧ ∀ n : Nat, x ≠ gv .u32 n) : FracL L (W.setCell ⟨B, 0, none⟩ u) v r := by
 obtain ⟨x, hk, hx⟩ := hk
 obtain ⟨A, c, C, d, e, h1, h2⟩ := h
 exact ⟨A, c, C, d, e, h1.box_set hk hx, h2.box_set hk hx⟩
theorem qHi (p q : Addr) (w : World) :
  CallsD Tryz.prog 86 #[.pointer (some p), .pointer (some q)] .returning w fun e u' w' => e = .returned (.tuple #[]) ∧ u' = .returning ∧ w' = w := by
 refine callsD_of_wpS Tryz.func86 rfl fun c₀ cs hu => ?_
 apply wpS_seq
 apply wpS_region
 simp [wpOpsS, go_sem, recoverD, hu, Tryz.ntmps86, Exit.thenS]
 apply wpS_seq
 apply wpS_region
 simp [wpOpsS, go_sem, recoverD, hu, Tryz.ntmps86, Exit.thenS]
 refine wpS_cond (t := false) (by simp [Act.eval, Array.replicate]) ?_
 simp only [Bool.false_eq_true, if_false]
 refine wpS_of_wp (wp_skip ?_)
 cases c₀
 simp_all [bodyPostS, results, Tryz.results86]
theorem qG2 (B : Nat) (e : Int) (ps1 : Bool) (pA1 : Option Addr) (pn1 : Nat) (pc1 : Nat) (pB1 : Option Addr) (pm1 : Nat) (pd1 : Nat) (ps2 : Bool) (pA2 : Option Addr) (pn2 : Nat) (pc2 : Nat) (pB2 : Option Addr) (pm2 : Nat) (pd2 : Nat) (b : Value) (tp tq : TypeId) (w : World) (hb : w.heap[B]? = some (.cells #[.bool ps1, .slice pA1 pn1 pc1, .slice pB1 pm1 pd1, .bool ps2, .slice pA2 pn2 pc2, .slice pB2 pm2 pd2] tp)) (hq : w.heap[B + 1]? = some (.cells #[b] tq)) :
  CallsD Tryz.prog 86 #[.pointer (some ⟨B, 0, none⟩), .pointer (some ⟨B + 1, 0, none⟩)] (.panicking [{ v := .iface 134 (.agg #[.int .i64 e]), recovered := false }]) w fun E u' w' => E = .returned (.tuple #[]) ∧ u' = .panicking [{ v := .iface 134 (.agg #[.int .i64 e]), recovered := true }] ∧
   w'.heap[B]? = some (.cells #[.bool false, .slice none 0 0, .slice none 0 0, .bool false, .slice none 0 0, .slice none 0 0] tp) ∧ w'.cell? ⟨B + 1, 0, none⟩ = some (.int .i64 e) ∧ ∀ w0, Le w0 w → w0.heap.size ≤ B → Le w0 w' := by
 refine callsD_of_wpS Tryz.func86 rfl fun c₀ cs hu => ?_
 apply wpS_seq
 apply wpS_region
 simp [wpOpsS, go_sem, recoverD, hu, Tryz.ntmps86, Exit.thenS]
 apply wpS_seq
 apply wpS_region
 simp [wpOpsS, go_sem, recoverD, hu, Tryz.ntmps86, Exit.thenS]
 refine wpS_cond (t := true) (by simp [Act.eval, Array.replicate]) ?_
 simp only [if_true]
 refine wpS_of_wp ?_
 have hta : ∀ W : World, (Instr.typeAssert (Value.iface 134 (Value.agg #[Value.int IntKind.i64 e])) 20 134 true).run Tryz.prog W = .ok (.tuple #[.agg #[.int .i64 e], .bool true]) W := fun _ => by kernel_rfl
 have harr : ∀ a b c d e f g h : Value, #[a, b] ++ ((((((Array.replicate 18 undef).setIfInBounds 4 c).setIfInBounds 0 d).setIfInBounds 5 e).setIfInBounds 6 f)) = #[a, b, d, undef, undef, undef, c, e, f, undef, undef, undef, undef, undef, undef, undef, undef, undef, undef, undef] := fun _ _ _ _ _ _ _ _ => by first | kernel_rfl | simp [Array.replicate_succ]
 rw [harr _ _ _ _ _ _ undef undef]
 go_wp2
 obtain ⟨hle, hk, hk2⟩ := qAp (Le.refl ((w.alloc (.cells #[.int .i64 e] 134)).alloc (.cells #[.bool false, .slice none 0 0, .slice none 0 0, .bool false, .slice none 0 0, .slice none 0 0] 89)))
 generalize hW : (w.alloc (.cells #[.int .i64 e] 134)).alloc (.cells #[.bool false, .slice none 0 0, .slice none 0 0, .bool false, .slice none 0 0, .slice none 0 0] 89) = W at *
 have hb2 := bxl hle hb
 have hq2 := bxl hle hq
 have hBl := (gsl hb)
 have hql := (gsl hq)
 obtain ⟨c10, c11, c12, c13, c14, c15⟩ := qAC hb2
 have ⟨f10, f11, f12, f13, f14, f15⟩ := frz6 hb2
 have c2 := qAF hq2
 have f2 := fz0 hq2 0
 have c3 := qAF hk
 obtain ⟨x40, x41, x42, x43, x44, x45⟩ := qAC hk2
 have n1 : ¬ w.heap.size = B := by omega
 have n2 : ¬ w.heap.size = B + 1 := by omega
 have n3 : ¬ B = w.heap.size := by omega
 have n4 : ¬ B + 1 = w.heap.size := by omega
 have n5 : ¬ B + 1 = B := by omega
 have n6 : ¬ w.heap.size + 1 = B := by omega
 have n7 : ¬ w.heap.size + 1 = B + 1 := by omega
 have n8 : ¬ B = w.heap.size + 1 := by omega
 have ⟨hW', hle', hk', hk2', hb', hq', hb2', hq2'⟩ := hyd8 hW hle hk hk2 hb hq hb2 hq2
 have hu' := hyd1 hu
 clear hu hq2 hb2 hq hb hk2 hk hle hW
 go_region
 have h1 : ((((((W.setCell ⟨B, 0, none⟩ (.bool false)).setCell ⟨B, 1, none⟩ (.slice none 0 0)).setCell ⟨B, 2, none⟩ (.slice none 0 0)).setCell ⟨B, 3, none⟩ (.bool false)).setCell ⟨B, 4, none⟩ (.slice none 0 0)).setCell ⟨B, 5, none⟩ (.slice none 0 0)).heap[B]? = _ := qAZ hb2'.out (.bool false) (.slice none 0 0) (.slice none 0 0) (.bool false) (.slice none 0 0) (.slice none 0 0)
 have hne : B + 1 ≠ B := by omega
 have h2 : ((((((W.setCell ⟨B, 0, none⟩ (.bool false)).setCell ⟨B, 1, none⟩ (.slice none 0 0)).setCell ⟨B, 2, none⟩ (.slice none 0 0)).setCell ⟨B, 3, none⟩ (.bool false)).setCell ⟨B, 4, none⟩ (.slice none 0 0)).setCell ⟨B, 5, none⟩ (.slice none 0 0)).heap[B + 1]? = some (.cells #[b] tq) := ((qAE _ _ _ _ _ _ _ _).2.1 _ hne).trans hq2'.out
 have hle8 : ∀ w0, Le w0 w → w0.heap.size ≤ B → Le w0 ((((((W.setCell ⟨B, 0, none⟩ (.bool false)).setCell ⟨B, 1, none⟩ (.slice none 0 0)).setCell ⟨B, 2, none⟩ (.slice none 0 0)).setCell ⟨B, 3, none⟩ (.bool false)).setCell ⟨B, 4, none⟩ (.slice none 0 0)).setCell ⟨B, 5, none⟩ (.slice none 0 0)) := fun w0 h0 h5 => qAh (Le.trans h0 hle'.out) h5 _ _ _ _ _ _
 generalize ((((((W.setCell ⟨B, 0, none⟩ (.bool false)).setCell ⟨B, 1, none⟩ (.slice none 0 0)).setCell ⟨B, 2, none⟩ (.slice none 0 0)).setCell ⟨B, 3, none⟩ (.bool false)).setCell ⟨B, 4, none⟩ (.slice none 0 0)).setCell ⟨B, 5, none⟩ (.slice none 0 0)) = V1 at *
 have h3 := qA5 h2 (u := .int .i64 e)
 have h4 : (V1.setCell ⟨B + 1, 0, none⟩ (.int .i64 e)).heap[B]? = _ := (Below.heap_setCell _ _ _ _ (by show B ≠ B + 1; omega)).trans h1
 have hle9 : ∀ w0, Le w0 w → w0.heap.size ≤ B → Le w0 (V1.setCell ⟨B + 1, 0, none⟩ (.int .i64 e)).drew := fun w0 h0 h5 =>
  Le.trans ((hle8 w0 h0 h5).setCell (p := ⟨B + 1, 0, none⟩) (by show w0.heap.size ≤ B + 1; omega) _) Le.drew
 have d1 : (V1.setCell ⟨B + 1, 0, none⟩ (.int .i64 e)).drew.heap[B]? = _ := h4
 have d2 : (V1.setCell ⟨B + 1, 0, none⟩ (.int .i64 e)).drew.cell? ⟨B + 1, 0, none⟩ = _ := qAF h3
 generalize (V1.setCell ⟨B + 1, 0, none⟩ (.int .i64 e)).drew = V at *
 show bodyPostS _ _ _ _ _ _ _ _ _
 simp [bodyPostS, results, Tryz.results86, go_sem, d1, d2]
 exact hle9
theorem qGz (g : FuncId) (cap : Array Value) (w : World) (hg : qA7 Tryz.prog g) (hf : ∀ W, Le w W → Calls Tryz.prog g cap W fun e W' => ∃ v, e = .returned v ∧ Le W W' ∧ qGW v) :
  Calls Tryz.prog 40 #[.func (.func g) #[] cap] w fun e w' => ∃ v, e = .returned (.tuple #[v, .int .i64 0]) ∧ Le w w' ∧ qGW v := by
 have hmf : ∀ (fn : Fn) (first cap : Array Value) (w : World), (Instr.makeFunc fn first cap).run Tryz.prog w = .ok (.func fn first cap) w := fun _ _ _ _ => rfl
 unfold qA7 at hg
 go_enter_defers Tryz.func40, Tryz.ntmps40
 go_wp2_with (fail)
 refine (hf _ ((qAA _ _).trans (qAA _ _))).mono ?_
 rintro e W ⟨v, rfl, hle, hfr⟩
 obtain ⟨ps1, pA1, pn1, pc1, pB1, pm1, pd1, ps2, pA2, pn2, pc2, pB2, pm2, pd2, rfl⟩ := hfr
 obtain ⟨hle1, hb, hq⟩ := qAp hle
 obtain ⟨c10, c11, c12, c13, c14, c15⟩ := qAC hb
 have ⟨f10, f11, f12, f13, f14, f15⟩ := frz6 hb
 have e2 := qAF hq
 have f2 := fz0 hq 0
 have hBl := (gsl hb)
 have hql := (gsl hq)
 have ⟨hle', hle1', hb', hq'⟩ := hyd4 hle hle1 hb hq
 clear hq hb hle1 hle
 go_wp2
 have h1 : ((((((W.setCell ⟨w.heap.size, 0, none⟩ (.bool ps1)).setCell ⟨w.heap.size, 1, none⟩ (.slice pA1 pn1 pc1)).setCell ⟨w.heap.size, 2, none⟩ (.slice pB1 pm1 pd1)).setCell ⟨w.heap.size, 3, none⟩ (.bool ps2)).setCell ⟨w.heap.size, 4, none⟩ (.slice pA2 pn2 pc2)).setCell ⟨w.heap.size, 5, none⟩ (.slice pB2 pm2 pd2)).heap[w.heap.size]? = _ := qAZ hb'.out (.bool ps1) (.slice pA1 pn1 pc1) (.slice pB1 pm1 pd1) (.bool ps2) (.slice pA2 pn2 pc2) (.slice pB2 pm2 pd2)
 have hne : w.heap.size + 1 ≠ w.heap.size := by omega
 have h2 : ((((((W.setCell ⟨w.heap.size, 0, none⟩ (.bool ps1)).setCell ⟨w.heap.size, 1, none⟩ (.slice pA1 pn1 pc1)).setCell ⟨w.heap.size, 2, none⟩ (.slice pB1 pm1 pd1)).setCell ⟨w.heap.size, 3, none⟩ (.bool ps2)).setCell ⟨w.heap.size, 4, none⟩ (.slice pA2 pn2 pc2)).setCell ⟨w.heap.size, 5, none⟩ (.slice pB2 pm2 pd2)).heap[w.heap.size + 1]? = _ := ((qAE _ _ _ _ _ _ _ _).2.1 _ hne).trans hq'.out
 have hle8 : Le w ((((((W.setCell ⟨w.heap.size, 0, none⟩ (.bool ps1)).setCell ⟨w.heap.size, 1, none⟩ (.slice pA1 pn1 pc1)).setCell ⟨w.heap.size, 2, none⟩ (.slice pB1 pm1 pd1)).setCell ⟨w.heap.size, 3, none⟩ (.bool ps2)).setCell ⟨w.heap.size, 4, none⟩ (.slice pA2 pn2 pc2)).setCell ⟨w.heap.size, 5, none⟩ (.slice pB2 pm2 pd2)) := qAh hle1'.out (Nat.le_refl _) _ _ _ _ _ _

 generalize ((((((W.setCell ⟨w.heap.size, 0, none⟩ (.bool ps1)).setCell ⟨w.heap.size, 1, none⟩ (.slice pA1 pn1 pc1)).setCell ⟨w.heap.size, 2, none⟩ (.slice pB1 pm1 pd1)).setCell ⟨w.heap.size, 3, none⟩ (.bool ps2)).setCell ⟨w.heap.size, 4, none⟩ (.slice pA2 pn2 pc2)).setCell ⟨w.heap.size, 5, none⟩ (.slice pB2 pm2 pd2)) = V1 at *
 have h3 := qA5 h2 (u := .int .i64 0)
 have h4 : (V1.setCell ⟨w.heap.size + 1, 0, none⟩ (.int .i64 0)).heap[w.heap.size]? = _ := (Below.heap_setCell _ _ _ _ (by show w.heap.size ≠ w.heap.size + 1; omega)).trans h1
 have hle9 : Le w (V1.setCell ⟨w.heap.size + 1, 0, none⟩ (.int .i64 0)) := hle8.setCell (p := ⟨w.heap.size + 1, 0, none⟩) (by show w.heap.size ≤ w.heap.size + 1; omega) _

 obtain ⟨d10, d11, d12, d13, d14, d15⟩ := qAC h4
 have d2 := qAF h3
 refine leaves_cons (f := 86) (args := #[.pointer (some ⟨w.heap.size, 0, none⟩), .pointer (some ⟨w.heap.size + 1, 0, none⟩)]) (by simp) (by simp [go_sem]) ?_
 refine (qHi _ _ _).mono ?_
 rintro e u' w'' ⟨rfl, rfl, rfl⟩
 simp [Leaves, settle, results, Tryz.results40, go_sem, d10, d11, d12, d13, d14, d15, d2]
 exact ⟨hle9, _, _, _, _, _, _, _, _, _, _, _, _, _, _, rfl⟩
theorem qG3 (x : Int) (g : FuncId) (cap : Array Value) (w : World) (hg : qA7 Tryz.prog g) (hf : ∀ W, Le w W → Calls Tryz.prog g cap W fun e W' => e = .panicked (flt x) ∧ Le W W') :
  Calls Tryz.prog 40 #[.func (.func g) #[] cap] w fun e w' => e = .returned (.tuple #[.agg #[.bool false, .slice none 0 0, .slice none 0 0, .bool false, .slice none 0 0, .slice none 0 0], .int .i64 x]) ∧ Le w w' := by
 have hmf : ∀ (fn : Fn) (first cap : Array Value) (w : World), (Instr.makeFunc fn first cap).run Tryz.prog w = .ok (.func fn first cap) w := fun _ _ _ _ => rfl
 unfold qA7 at hg
 go_enter_defers Tryz.func40, Tryz.ntmps40
 go_wp2_with (fail)
 refine (hf _ ((qAA _ _).trans (qAA _ _))).mono ?_
 rintro e W ⟨rfl, hle⟩
 obtain ⟨hle1, hb, hq⟩ := qAp hle
 have hle' := hyd1 hle
 clear hle
 go_wp2
 refine leaves_cons (f := 86) (args := #[.pointer (some ⟨w.heap.size, 0, none⟩), .pointer (some ⟨w.heap.size + 1, 0, none⟩)]) (by simp) (by simp [go_sem]) ?_
 refine (qG2 w.heap.size x _ _ _ _ _ _ _ _ _ _ _ _ _ _ _ _ _ _ hb hq).mono ?_
 rintro e u' w'' ⟨rfl, rfl, d1, d2, hl⟩
 have hle9 := hl w hle1 (Nat.le_refl _)
 obtain ⟨d10, d11, d12, d13, d14, d15⟩ := qAC d1
 simp [Leaves, settle, results, Tryz.results40, go_sem, d10, d11, d12, d13, d14, d15, d2]
 exact hle9
theorem qHA (p q : Addr) (w : World) :
  CallsD Tryz.prog 107 #[.pointer (some p), .pointer (some q)] .returning w fun e u' w' => e = .returned (.tuple #[]) ∧ u' = .returning ∧ w' = w := by
 refine callsD_of_wpS Tryz.func107 rfl fun c₀ cs hu => ?_
 apply wpS_seq
 apply wpS_region
 simp [wpOpsS, go_sem, recoverD, hu, Tryz.ntmps107, Exit.thenS]
 apply wpS_seq
 apply wpS_region
 simp [wpOpsS, go_sem, recoverD, hu, Tryz.ntmps107, Exit.thenS]
 refine wpS_cond (t := false) (by simp [Act.eval, Array.replicate]) ?_
 simp only [Bool.false_eq_true, if_false]
 refine wpS_of_wp (wp_skip ?_)
 cases c₀
 simp_all [bodyPostS, results, Tryz.results107]
theorem qFq (B : Nat) (e : Int) (ps1 : Bool) (pA1 : Option Addr) (pn1 : Nat) (pc1 : Nat) (pt1 : Bool) (pB1 : Option Addr) (pm1 : Nat) (pd1 : Nat) (ps2 : Bool) (pA2 : Option Addr) (pn2 : Nat) (pc2 : Nat) (pt2 : Bool) (pB2 : Option Addr) (pm2 : Nat) (pd2 : Nat) (b : Value) (tp tq : TypeId) (w : World) (hb : w.heap[B]? = some (.cells #[.bool ps1, .slice pA1 pn1 pc1, .bool pt1, .slice pB1 pm1 pd1, .bool ps2, .slice pA2 pn2 pc2, .bool pt2, .slice pB2 pm2 pd2] tp)) (hq : w.heap[B + 1]? = some (.cells #[b] tq)) :
  CallsD Tryz.prog 107 #[.pointer (some ⟨B, 0, none⟩), .pointer (some ⟨B + 1, 0, none⟩)] (.panicking [{ v := .iface 134 (.agg #[.int .i64 e]), recovered := false }]) w fun E u' w' => E = .returned (.tuple #[]) ∧ u' = .panicking [{ v := .iface 134 (.agg #[.int .i64 e]), recovered := true }] ∧
   w'.heap[B]? = some (.cells #[.bool false, .slice none 0 0, .bool false, .slice none 0 0, .bool false, .slice none 0 0, .bool false, .slice none 0 0] tp) ∧ w'.cell? ⟨B + 1, 0, none⟩ = some (.int .i64 e) ∧ ∀ w0, Le w0 w → w0.heap.size ≤ B → Le w0 w' := by
 refine callsD_of_wpS Tryz.func107 rfl fun c₀ cs hu => ?_
 apply wpS_seq
 apply wpS_region
 simp [wpOpsS, go_sem, recoverD, hu, Tryz.ntmps107, Exit.thenS]
 apply wpS_seq
 apply wpS_region
 simp [wpOpsS, go_sem, recoverD, hu, Tryz.ntmps107, Exit.thenS]
 refine wpS_cond (t := true) (by simp [Act.eval, Array.replicate]) ?_
 simp only [if_true]
 refine wpS_of_wp ?_
 have hta : ∀ W : World, (Instr.typeAssert (Value.iface 134 (Value.agg #[Value.int IntKind.i64 e])) 20 134 true).run Tryz.prog W = .ok (.tuple #[.agg #[.int .i64 e], .bool true]) W := fun _ => by kernel_rfl
 have harr : ∀ a b c d e f g h : Value, #[a, b] ++ ((((((Array.replicate 18 undef).setIfInBounds 4 c).setIfInBounds 0 d).setIfInBounds 5 e).setIfInBounds 6 f)) = #[a, b, d, undef, undef, undef, c, e, f, undef, undef, undef, undef, undef, undef, undef, undef, undef, undef, undef] := fun _ _ _ _ _ _ _ _ => by first | kernel_rfl | simp [Array.replicate_succ]
 rw [harr _ _ _ _ _ _ undef undef]
 go_wp2
 obtain ⟨hle, hk, hk2⟩ := qAp (Le.refl ((w.alloc (.cells #[.int .i64 e] 134)).alloc (.cells #[.bool false, .slice none 0 0, .bool false, .slice none 0 0, .bool false, .slice none 0 0, .bool false, .slice none 0 0] 29)))
 generalize hW : (w.alloc (.cells #[.int .i64 e] 134)).alloc (.cells #[.bool false, .slice none 0 0, .bool false, .slice none 0 0, .bool false, .slice none 0 0, .bool false, .slice none 0 0] 29) = W at *
 have hb2 := bxl hle hb
 have hq2 := bxl hle hq
 have hBl := (gsl hb)
 have hql := (gsl hq)
 obtain ⟨c10, c11, c12, c13, c14, c15, c16, c17⟩ := qAB hb2
 have ⟨f10, f11, f12, f13, f14, f15, f16, f17⟩ := frz8 hb2
 have c2 := qAF hq2
 have f2 := fz0 hq2 0
 have c3 := qAF hk
 obtain ⟨x40, x41, x42, x43, x44, x45, x46, x47⟩ := qAB hk2
 have n1 : ¬ w.heap.size = B := by omega
 have n2 : ¬ w.heap.size = B + 1 := by omega
 have n3 : ¬ B = w.heap.size := by omega
 have n4 : ¬ B + 1 = w.heap.size := by omega
 have n5 : ¬ B + 1 = B := by omega
 have n6 : ¬ w.heap.size + 1 = B := by omega
 have n7 : ¬ w.heap.size + 1 = B + 1 := by omega
 have n8 : ¬ B = w.heap.size + 1 := by omega
 have ⟨hW', hle', hk', hk2', hb', hq', hb2', hq2'⟩ := hyd8 hW hle hk hk2 hb hq hb2 hq2
 have hu' := hyd1 hu
 clear hu hq2 hb2 hq hb hk2 hk hle hW
 go_region
 have h1 : ((((((((W.setCell ⟨B, 0, none⟩ (.bool false)).setCell ⟨B, 1, none⟩ (.slice none 0 0)).setCell ⟨B, 2, none⟩ (.bool false)).setCell ⟨B, 3, none⟩ (.slice none 0 0)).setCell ⟨B, 4, none⟩ (.bool false)).setCell ⟨B, 5, none⟩ (.slice none 0 0)).setCell ⟨B, 6, none⟩ (.bool false)).setCell ⟨B, 7, none⟩ (.slice none 0 0)).heap[B]? = _ := qAI hb2'.out (.bool false) (.slice none 0 0) (.bool false) (.slice none 0 0) (.bool false) (.slice none 0 0) (.bool false) (.slice none 0 0)
 have hne : B + 1 ≠ B := by omega
 have h2 : ((((((((W.setCell ⟨B, 0, none⟩ (.bool false)).setCell ⟨B, 1, none⟩ (.slice none 0 0)).setCell ⟨B, 2, none⟩ (.bool false)).setCell ⟨B, 3, none⟩ (.slice none 0 0)).setCell ⟨B, 4, none⟩ (.bool false)).setCell ⟨B, 5, none⟩ (.slice none 0 0)).setCell ⟨B, 6, none⟩ (.bool false)).setCell ⟨B, 7, none⟩ (.slice none 0 0)).heap[B + 1]? = some (.cells #[b] tq) := ((qAL _ _ _ _ _ _ _ _ _ _).2.1 _ hne).trans hq2'.out
 have hle8 : ∀ w0, Le w0 w → w0.heap.size ≤ B → Le w0 ((((((((W.setCell ⟨B, 0, none⟩ (.bool false)).setCell ⟨B, 1, none⟩ (.slice none 0 0)).setCell ⟨B, 2, none⟩ (.bool false)).setCell ⟨B, 3, none⟩ (.slice none 0 0)).setCell ⟨B, 4, none⟩ (.bool false)).setCell ⟨B, 5, none⟩ (.slice none 0 0)).setCell ⟨B, 6, none⟩ (.bool false)).setCell ⟨B, 7, none⟩ (.slice none 0 0)) := fun w0 h0 h5 => qAW (Le.trans h0 hle'.out) h5 _ _ _ _ _ _ _ _
 generalize ((((((((W.setCell ⟨B, 0, none⟩ (.bool false)).setCell ⟨B, 1, none⟩ (.slice none 0 0)).setCell ⟨B, 2, none⟩ (.bool false)).setCell ⟨B, 3, none⟩ (.slice none 0 0)).setCell ⟨B, 4, none⟩ (.bool false)).setCell ⟨B, 5, none⟩ (.slice none 0 0)).setCell ⟨B, 6, none⟩ (.bool false)).setCell ⟨B, 7, none⟩ (.slice none 0 0)) = V1 at *
 have h3 := qA5 h2 (u := .int .i64 e)
 have h4 : (V1.setCell ⟨B + 1, 0, none⟩ (.int .i64 e)).heap[B]? = _ := (Below.heap_setCell _ _ _ _ (by show B ≠ B + 1; omega)).trans h1
 have hle9 : ∀ w0, Le w0 w → w0.heap.size ≤ B → Le w0 (V1.setCell ⟨B + 1, 0, none⟩ (.int .i64 e)).drew := fun w0 h0 h5 =>
  Le.trans ((hle8 w0 h0 h5).setCell (p := ⟨B + 1, 0, none⟩) (by show w0.heap.size ≤ B + 1; omega) _) Le.drew
 have d1 : (V1.setCell ⟨B + 1, 0, none⟩ (.int .i64 e)).drew.heap[B]? = _ := h4
 have d2 : (V1.setCell ⟨B + 1, 0, none⟩ (.int .i64 e)).drew.cell? ⟨B + 1, 0, none⟩ = _ := qAF h3
 generalize (V1.setCell ⟨B + 1, 0, none⟩ (.int .i64 e)).drew = V at *
 show bodyPostS _ _ _ _ _ _ _ _ _
 simp [bodyPostS, results, Tryz.results107, go_sem, d1, d2]
 exact hle9
theorem qG4 (r : G2) (g : FuncId) (cap : Array Value) (w : World) (hg : qA7 Tryz.prog g) (hf : ∀ W, Le w W → Calls Tryz.prog g cap W fun e W' => ∃ v, e = .returned v ∧ Le W W' ∧ TurnF W' v r) :
  Calls Tryz.prog 64 #[.func (.func g) #[] cap] w fun e w' => ∃ v, e = .returned (.tuple #[v, .int .i64 0]) ∧ Le w w' ∧ TurnF w' v r := by
 have hmf : ∀ (fn : Fn) (first cap : Array Value) (w : World), (Instr.makeFunc fn first cap).run Tryz.prog w = .ok (.func fn first cap) w := fun _ _ _ _ => rfl
 unfold qA7 at hg
 go_enter_defers Tryz.func64, Tryz.ntmps64
 go_wp2_with (fail)
 refine (hf _ ((qAA _ _).trans (qAA _ _))).mono ?_
 rintro e W ⟨v, rfl, hle, hfr⟩
 obtain ⟨ps1, pA1, pn1, pc1, pt1, pB1, pm1, pd1, ps2, pA2, pn2, pc2, pt2, pB2, pm2, pd2, rfl, y1, y2⟩ := hfr
 obtain ⟨hle1, hb, hq⟩ := qAp hle
 obtain ⟨c10, c11, c12, c13, c14, c15, c16, c17⟩ := qAB hb
 have ⟨f10, f11, f12, f13, f14, f15, f16, f17⟩ := frz8 hb
 have e2 := qAF hq
 have f2 := fz0 hq 0
 have hBl := (gsl hb)
 have hql := (gsl hq)
 have ⟨hle', hle1', hb', hq', y1', y2'⟩ := hyd6 hle hle1 hb hq y1 y2
 clear y2 y1 hq hb hle1 hle
 go_wp2
 have h1 : ((((((((W.setCell ⟨w.heap.size, 0, none⟩ (.bool ps1)).setCell ⟨w.heap.size, 1, none⟩ (.slice pA1 pn1 pc1)).setCell ⟨w.heap.size, 2, none⟩ (.bool pt1)).setCell ⟨w.heap.size, 3, none⟩ (.slice pB1 pm1 pd1)).setCell ⟨w.heap.size, 4, none⟩ (.bool ps2)).setCell ⟨w.heap.size, 5, none⟩ (.slice pA2 pn2 pc2)).setCell ⟨w.heap.size, 6, none⟩ (.bool pt2)).setCell ⟨w.heap.size, 7, none⟩ (.slice pB2 pm2 pd2)).heap[w.heap.size]? = _ := qAI hb'.out (.bool ps1) (.slice pA1 pn1 pc1) (.bool pt1) (.slice pB1 pm1 pd1) (.bool ps2) (.slice pA2 pn2 pc2) (.bool pt2) (.slice pB2 pm2 pd2)
 have hne : w.heap.size + 1 ≠ w.heap.size := by omega
 have h2 : ((((((((W.setCell ⟨w.heap.size, 0, none⟩ (.bool ps1)).setCell ⟨w.heap.size, 1, none⟩ (.slice pA1 pn1 pc1)).setCell ⟨w.heap.size, 2, none⟩ (.bool pt1)).setCell ⟨w.heap.size, 3, none⟩ (.slice pB1 pm1 pd1)).setCell ⟨w.heap.size, 4, none⟩ (.bool ps2)).setCell ⟨w.heap.size, 5, none⟩ (.slice pA2 pn2 pc2)).setCell ⟨w.heap.size, 6, none⟩ (.bool pt2)).setCell ⟨w.heap.size, 7, none⟩ (.slice pB2 pm2 pd2)).heap[w.heap.size + 1]? = _ := ((qAL _ _ _ _ _ _ _ _ _ _).2.1 _ hne).trans hq'.out
 have hle8 : Le w ((((((((W.setCell ⟨w.heap.size, 0, none⟩ (.bool ps1)).setCell ⟨w.heap.size, 1, none⟩ (.slice pA1 pn1 pc1)).setCell ⟨w.heap.size, 2, none⟩ (.bool pt1)).setCell ⟨w.heap.size, 3, none⟩ (.slice pB1 pm1 pd1)).setCell ⟨w.heap.size, 4, none⟩ (.bool ps2)).setCell ⟨w.heap.size, 5, none⟩ (.slice pA2 pn2 pc2)).setCell ⟨w.heap.size, 6, none⟩ (.bool pt2)).setCell ⟨w.heap.size, 7, none⟩ (.slice pB2 pm2 pd2)) := qAW hle1'.out (Nat.le_refl _) _ _ _ _ _ _ _ _
 have j1 : qCk ((((((((W.setCell ⟨w.heap.size, 0, none⟩ (.bool ps1)).setCell ⟨w.heap.size, 1, none⟩ (.slice pA1 pn1 pc1)).setCell ⟨w.heap.size, 2, none⟩ (.bool pt1)).setCell ⟨w.heap.size, 3, none⟩ (.slice pB1 pm1 pd1)).setCell ⟨w.heap.size, 4, none⟩ (.bool ps2)).setCell ⟨w.heap.size, 5, none⟩ (.slice pA2 pn2 pc2)).setCell ⟨w.heap.size, 6, none⟩ (.bool pt2)).setCell ⟨w.heap.size, 7, none⟩ (.slice pB2 pm2 pd2)) (.agg #[.bool ps1, .slice pA1 pn1 pc1, .bool pt1, .slice pB1 pm1 pd1]) r.1 := y1'.out.touch (qA9 hb'.out) (qAL _ _ _ _ _ _ _ _ _ _)
 have j2 : qCk ((((((((W.setCell ⟨w.heap.size, 0, none⟩ (.bool ps1)).setCell ⟨w.heap.size, 1, none⟩ (.slice pA1 pn1 pc1)).setCell ⟨w.heap.size, 2, none⟩ (.bool pt1)).setCell ⟨w.heap.size, 3, none⟩ (.slice pB1 pm1 pd1)).setCell ⟨w.heap.size, 4, none⟩ (.bool ps2)).setCell ⟨w.heap.size, 5, none⟩ (.slice pA2 pn2 pc2)).setCell ⟨w.heap.size, 6, none⟩ (.bool pt2)).setCell ⟨w.heap.size, 7, none⟩ (.slice pB2 pm2 pd2)) (.agg #[.bool ps2, .slice pA2 pn2 pc2, .bool pt2, .slice pB2 pm2 pd2]) r.2 := y2'.out.touch (qA9 hb'.out) (qAL _ _ _ _ _ _ _ _ _ _)
 generalize ((((((((W.setCell ⟨w.heap.size, 0, none⟩ (.bool ps1)).setCell ⟨w.heap.size, 1, none⟩ (.slice pA1 pn1 pc1)).setCell ⟨w.heap.size, 2, none⟩ (.bool pt1)).setCell ⟨w.heap.size, 3, none⟩ (.slice pB1 pm1 pd1)).setCell ⟨w.heap.size, 4, none⟩ (.bool ps2)).setCell ⟨w.heap.size, 5, none⟩ (.slice pA2 pn2 pc2)).setCell ⟨w.heap.size, 6, none⟩ (.bool pt2)).setCell ⟨w.heap.size, 7, none⟩ (.slice pB2 pm2 pd2)) = V1 at *
 have h3 := qA5 h2 (u := .int .i64 0)
 have h4 : (V1.setCell ⟨w.heap.size + 1, 0, none⟩ (.int .i64 0)).heap[w.heap.size]? = _ := (Below.heap_setCell _ _ _ _ (by show w.heap.size ≠ w.heap.size + 1; omega)).trans h1
 have hle9 : Le w (V1.setCell ⟨w.heap.size + 1, 0, none⟩ (.int .i64 0)) := hle8.setCell (p := ⟨w.heap.size + 1, 0, none⟩) (by show w.heap.size ≤ w.heap.size + 1; omega) _
 have hcd : ∃ x : Value, V1.heap[w.heap.size + 1]? = some (.cells #[x] 32) ∧ ∀ n : Nat, x ≠ gv .u32 n := ⟨_, h2, fun n => by unfold gv; simp⟩
 have j3 := j1.code hcd (u := .int .i64 0)
 have j4 := j2.code hcd (u := .int .i64 0)
 obtain ⟨d10, d11, d12, d13, d14, d15, d16, d17⟩ := qAB h4
 have d2 := qAF h3
 refine leaves_cons (f := 107) (args := #[.pointer (some ⟨w.heap.size, 0, none⟩), .pointer (some ⟨w.heap.size + 1, 0, none⟩)]) (by simp) (by simp [go_sem]) ?_
 refine (qHA _ _ _).mono ?_
 rintro e u' w'' ⟨rfl, rfl, rfl⟩
 simp [Leaves, settle, results, Tryz.results64, go_sem, d10, d11, d12, d13, d14, d15, d16, d17, d2]
 exact ⟨hle9, TurnF.mk j3 j4⟩
theorem qFr (x : Int) (g : FuncId) (cap : Array Value) (w : World) (hg : qA7 Tryz.prog g) (hf : ∀ W, Le w W → Calls Tryz.prog g cap W fun e W' => e = .panicked (flt x) ∧ Le W W') :
  Calls Tryz.prog 64 #[.func (.func g) #[] cap] w fun e w' => e = .returned (.tuple #[.agg #[.bool false, .slice none 0 0, .bool false, .slice none 0 0, .bool false, .slice none 0 0, .bool false, .slice none 0 0], .int .i64 x]) ∧ Le w w' := by
 have hmf : ∀ (fn : Fn) (first cap : Array Value) (w : World), (Instr.makeFunc fn first cap).run Tryz.prog w = .ok (.func fn first cap) w := fun _ _ _ _ => rfl
 unfold qA7 at hg
 go_enter_defers Tryz.func64, Tryz.ntmps64
 go_wp2_with (fail)
 refine (hf _ ((qAA _ _).trans (qAA _ _))).mono ?_
 rintro e W ⟨rfl, hle⟩
 obtain ⟨hle1, hb, hq⟩ := qAp hle
 have hle' := hyd1 hle
 clear hle
 go_wp2
 refine leaves_cons (f := 107) (args := #[.pointer (some ⟨w.heap.size, 0, none⟩), .pointer (some ⟨w.heap.size + 1, 0, none⟩)]) (by simp) (by simp [go_sem]) ?_
 refine (qFq w.heap.size x _ _ _ _ _ _ _ _ _ _ _ _ _ _ _ _ _ _ _ _ hb hq).mono ?_
 rintro e u' w'' ⟨rfl, rfl, d1, d2, hl⟩
 have hle9 := hl w hle1 (Nat.le_refl _)
 obtain ⟨d10, d11, d12, d13, d14, d15, d16, d17⟩ := qAB d1
 simp [Leaves, settle, results, Tryz.results64, go_sem, d10, d11, d12, d13, d14, d15, d16, d17, d2]
 exact hle9
end Go.Proofs.YtlhfonhbbpbmpaaGreat

