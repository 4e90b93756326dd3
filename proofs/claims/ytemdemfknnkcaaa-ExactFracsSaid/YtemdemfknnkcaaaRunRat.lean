/- exact: run at rat: the deferred closure, a call that returns, a call that reports an error; CheckFrac. -/
import Derived.Test.YtemdemfknnkcaaaRS5
import Derived.Test.YtemdemfknnkcaaaRunFrac
namespace Go.Proofs.Ytemdemfknnkcaaa
open Go.RowKit Go.Shelf
set_option linter.unusedVariables false
set_option linter.unusedSimpArgs false
set_option maxRecDepth 10000
theorem run_rat_idle (p q : Addr) (w : World) :
    CallsD Try.prog 106 #[.pointer (some p), .pointer (some q)] .returning w fun e u' w' => e = .returned (.tuple #[]) ∧ u' = .returning ∧ w' = w := by
  refine callsD_of_wpS Try.func106 rfl fun c₀ cs hu => ?_
  apply wpS_seq
  apply wpS_region
  simp [wpOpsS, go_sem, recoverD, hu, Try.ntmps106, Exit.thenS]
  apply wpS_seq
  apply wpS_region
  simp [wpOpsS, go_sem, recoverD, hu, Try.ntmps106, Exit.thenS]
  refine wpS_cond (t := false) (by simp [Act.eval, Array.replicate]) ?_
  simp only [Bool.false_eq_true, if_false]
  refine wpS_of_wp (wp_skip ?_)
  cases c₀
  simp_all [bodyPostS, results, Try.results106]
theorem run_rat_caught (B : Nat) (e : Int) (s0 : Bool) (A1 A3 : Option Addr) (l1 l3 k1 k3 : Nat) (b : Value) (tp tq : TypeId) (w : World) (hb : w.heap[B]? = some (.cells #[.bool s0, .slice A1 l1 k1, .slice A3 l3 k3] tp)) (hq : w.heap[B + 1]? = some (.cells #[b] tq)) :
    CallsD Try.prog 106 #[.pointer (some ⟨B, 0, none⟩), .pointer (some ⟨B + 1, 0, none⟩)] (.panicking [{ v := .iface 119 (.agg #[.int .i64 e]), recovered := false }]) w fun E u' w' => E = .returned (.tuple #[]) ∧ u' = .panicking [{ v := .iface 119 (.agg #[.int .i64 e]), recovered := true }] ∧
      w'.heap[B]? = some (.cells #[.bool false, .slice none 0 0, .slice none 0 0] tp) ∧ w'.cell? ⟨B + 1, 0, none⟩ = some (.int .i64 e) ∧ ∀ w0, Le w0 w → w0.heap.size ≤ B → Le w0 w' := by
  refine callsD_of_wpS Try.func106 rfl fun c₀ cs hu => ?_
  apply wpS_seq
  apply wpS_region
  simp [wpOpsS, go_sem, recoverD, hu, Try.ntmps106, Exit.thenS]
  apply wpS_seq
  apply wpS_region
  simp [wpOpsS, go_sem, recoverD, hu, Try.ntmps106, Exit.thenS]
  refine wpS_cond (t := true) (by simp [Act.eval, Array.replicate]) ?_
  simp only [if_true]
  refine wpS_of_wp ?_
  have hta : ∀ W : World, (Instr.typeAssert (Value.iface 119 (Value.agg #[Value.int IntKind.i64 e])) 20 119 true).run Try.prog W = .ok (.tuple #[.agg #[.int .i64 e], .bool true]) W := fun _ => by kernel_rfl
  have harr : ∀ a b c d e f g h : Value, #[a, b] ++ ((((((Array.replicate 18 undef).setIfInBounds 4 c).setIfInBounds 0 d).setIfInBounds 5 e).setIfInBounds 6 f)) = #[a, b, d, undef, undef, undef, c, e, f, undef, undef, undef, undef, undef, undef, undef, undef, undef, undef, undef] := fun _ _ _ _ _ _ _ _ => by first | kernel_rfl | simp [Array.replicate_succ]
  rw [harr _ _ _ _ _ _ undef undef]
  go_wp2
  obtain ⟨hle, hk, hk2⟩ := box2_le (Le.refl ((w.alloc (.cells #[.int .i64 e] 119)).alloc (.cells #[.bool false, .slice none 0 0, .slice none 0 0] 59)))
  generalize hW : (w.alloc (.cells #[.int .i64 e] 119)).alloc (.cells #[.bool false, .slice none 0 0, .slice none 0 0] 59) = W at *
  have hb2 := (Below.block hle B (Array.getElem?_eq_some_iff.1 hb).1).trans hb
  have hq2 := (Below.block hle (B + 1) (Array.getElem?_eq_some_iff.1 hq).1).trans hq
  have hBl := (Array.getElem?_eq_some_iff.1 hb).1
  have hql := (Array.getElem?_eq_some_iff.1 hq).1
  obtain ⟨c10, c11, c12, f10, f11, f12⟩ := cells3 hb2
  have c2 := cell00 hq2
  have f2 := frozen00 hq2 0
  have c3 := cell00 hk
  obtain ⟨c40, c41, c42, -⟩ := cells3 hk2
  have n1 : ¬ w.heap.size = B := by omega
  have n2 : ¬ w.heap.size = B + 1 := by omega
  have n3 : ¬ B = w.heap.size := by omega
  have n4 : ¬ B + 1 = w.heap.size := by omega
  have n5 : ¬ B + 1 = B := by omega
  have n6 : ¬ w.heap.size + 1 = B := by omega
  have n7 : ¬ w.heap.size + 1 = B + 1 := by omega
  have n8 : ¬ B = w.heap.size + 1 := by omega
  have hW' := Lib.hid hW
  have hle' := Lib.hid hle
  have hk' := Lib.hid hk
  have hk2' := Lib.hid hk2
  have hb' := Lib.hid hb
  have hq' := Lib.hid hq
  have hb2' := Lib.hid hb2
  have hq2' := Lib.hid hq2
  have hu' := Lib.hid hu
  clear hu hq2 hb2 hq hb hk2 hk hle hW
  go_region
  have h1 := heap_set3 hb2'.out (u0 := .bool false) (u1 := .slice none 0 0) (u2 := .slice none 0 0)
  have hne : B + 1 ≠ B := by omega
  have h2 : (((W.setCell ⟨B, 0, none⟩ (.bool false)).setCell ⟨B, 1, none⟩ (.slice none 0 0)).setCell ⟨B, 2, none⟩ (.slice none 0 0)).heap[B + 1]? = some (.cells #[b] tq) := ((Below.heap_setCell _ _ _ _ hne).trans ((Below.heap_setCell _ _ _ _ hne).trans (Below.heap_setCell _ _ _ _ hne))).trans hq2'.out
  have hle8 : ∀ w0, Le w0 w → w0.heap.size ≤ B → Le w0 (((W.setCell ⟨B, 0, none⟩ (.bool false)).setCell ⟨B, 1, none⟩ (.slice none 0 0)).setCell ⟨B, 2, none⟩ (.slice none 0 0)) := fun w0 h0 h5 => le_set3 (Le.trans h0 hle'.out) h5
  generalize (((W.setCell ⟨B, 0, none⟩ (.bool false)).setCell ⟨B, 1, none⟩ (.slice none 0 0)).setCell ⟨B, 2, none⟩ (.slice none 0 0)) = V1 at *
  have h3 := heap_put0 h2 (u := .int .i64 e)
  have h4 : (V1.setCell ⟨B + 1, 0, none⟩ (.int .i64 e)).heap[B]? = _ := (Below.heap_setCell _ _ _ _ (by show B ≠ B + 1; omega)).trans h1
  have hle9 : ∀ w0, Le w0 w → w0.heap.size ≤ B → Le w0 (V1.setCell ⟨B + 1, 0, none⟩ (.int .i64 e)).drew := fun w0 h0 h5 =>
    Le.trans ((hle8 w0 h0 h5).setCell (p := ⟨B + 1, 0, none⟩) (by show w0.heap.size ≤ B + 1; omega) _) Le.drew
  have d1 : (V1.setCell ⟨B + 1, 0, none⟩ (.int .i64 e)).drew.heap[B]? = _ := h4
  have d2 : (V1.setCell ⟨B + 1, 0, none⟩ (.int .i64 e)).drew.cell? ⟨B + 1, 0, none⟩ = _ := cell00 h3
  generalize (V1.setCell ⟨B + 1, 0, none⟩ (.int .i64 e)).drew = V at *
  show bodyPostS _ _ _ _ _ _ _ _ _
  simp [bodyPostS, results, Try.results106, go_sem, d1, d2]
  exact hle9
theorem pf_run_rat_ok (g : FuncId) (cap : Array Value) (w : World) (hg : Plain Try.prog g) (hf : ∀ W, Le w W → Calls Try.prog g cap W fun e W' => ∃ v, e = .returned v ∧ Le W W' ∧ QForm v) :
    Calls Try.prog 57 #[.func (.func g) #[] cap] w fun e w' => ∃ v, e = .returned (.tuple #[v, .int .i64 0]) ∧ Le w w' ∧ QForm v := by
  have hmf : ∀ (fn : Fn) (first cap : Array Value) (w : World), (Instr.makeFunc fn first cap).run Try.prog w = .ok (.func fn first cap) w := fun _ _ _ _ => rfl
  unfold Plain at hg
  go_enter_defers Try.func57, Try.ntmps57
  go_wp2_with (fail)
  refine (hf _ ((le_alloc _ _).trans (le_alloc _ _))).mono ?_
  rintro e W ⟨v, rfl, hle, hfr⟩
  obtain ⟨s, A1, n1, c1, A2, n2, c2, rfl⟩ := hfr
  obtain ⟨hle1, hb, hq⟩ := box2_le hle
  obtain ⟨c10, c11, c12, f10, f11, f12⟩ := cells3 hb
  have e2 := cell00 hq
  have f2 := frozen00 hq 0
  have hBl := (Array.getElem?_eq_some_iff.1 hb).1
  have hql := (Array.getElem?_eq_some_iff.1 hq).1
  have hle' := Lib.hid hle
  have hle1' := Lib.hid hle1
  have hb' := Lib.hid hb
  have hq' := Lib.hid hq
  clear hq hb hle1 hle
  go_wp2
  have h1 := heap_set3 hb'.out (u0 := .bool s) (u1 := .slice A1 n1 c1) (u2 := .slice A2 n2 c2)
  have hne : w.heap.size + 1 ≠ w.heap.size := by omega
  have h2 : (((W.setCell ⟨w.heap.size, 0, none⟩ (.bool s)).setCell ⟨w.heap.size, 1, none⟩ (.slice A1 n1 c1)).setCell ⟨w.heap.size, 2, none⟩ (.slice A2 n2 c2)).heap[w.heap.size + 1]? = _ := ((Below.heap_setCell _ _ _ _ hne).trans ((Below.heap_setCell _ _ _ _ hne).trans (Below.heap_setCell _ _ _ _ hne))).trans hq'.out
  have hle8 : Le w (((W.setCell ⟨w.heap.size, 0, none⟩ (.bool s)).setCell ⟨w.heap.size, 1, none⟩ (.slice A1 n1 c1)).setCell ⟨w.heap.size, 2, none⟩ (.slice A2 n2 c2)) := le_set3 hle1'.out (Nat.le_refl _)
  generalize (((W.setCell ⟨w.heap.size, 0, none⟩ (.bool s)).setCell ⟨w.heap.size, 1, none⟩ (.slice A1 n1 c1)).setCell ⟨w.heap.size, 2, none⟩ (.slice A2 n2 c2)) = V1 at *
  have h3 := heap_put0 h2 (u := .int .i64 0)
  have h4 : (V1.setCell ⟨w.heap.size + 1, 0, none⟩ (.int .i64 0)).heap[w.heap.size]? = _ := (Below.heap_setCell _ _ _ _ (by show w.heap.size ≠ w.heap.size + 1; omega)).trans h1
  have hle9 : Le w (V1.setCell ⟨w.heap.size + 1, 0, none⟩ (.int .i64 0)) := hle8.setCell (p := ⟨w.heap.size + 1, 0, none⟩) (by show w.heap.size ≤ w.heap.size + 1; omega) _
  obtain ⟨d10, d11, d12, -⟩ := cells3 h4
  have d2 := cell00 h3
  refine leaves_cons (f := 106) (args := #[.pointer (some ⟨w.heap.size, 0, none⟩), .pointer (some ⟨w.heap.size + 1, 0, none⟩)]) (by simp) (by simp [go_sem]) ?_
  refine (run_rat_idle _ _ _).mono ?_
  rintro e u' w'' ⟨rfl, rfl, rfl⟩
  simp [Leaves, settle, results, Try.results57, go_sem, d10, d11, d12, d2]
  exact ⟨hle9, _, _, _, _, _, _, _, rfl⟩
theorem pf_run_rat_err (x : Int) (g : FuncId) (cap : Array Value) (w : World) (hg : Plain Try.prog g) (hf : ∀ W, Le w W → Calls Try.prog g cap W fun e W' => e = .panicked [{ v := .iface 119 (.agg #[.int .i64 x]), recovered := false }] ∧ Le W W') :
    Calls Try.prog 57 #[.func (.func g) #[] cap] w fun e w' => e = .returned (.tuple #[.agg #[.bool false, .slice none 0 0, .slice none 0 0], .int .i64 x]) ∧ Le w w' := by
  have hmf : ∀ (fn : Fn) (first cap : Array Value) (w : World), (Instr.makeFunc fn first cap).run Try.prog w = .ok (.func fn first cap) w := fun _ _ _ _ => rfl
  unfold Plain at hg
  go_enter_defers Try.func57, Try.ntmps57
  go_wp2_with (fail)
  refine (hf _ ((le_alloc _ _).trans (le_alloc _ _))).mono ?_
  rintro e W ⟨rfl, hle⟩
  obtain ⟨hle1, hb, hq⟩ := box2_le hle
  have hle' := Lib.hid hle
  clear hle
  go_wp2
  refine leaves_cons (f := 106) (args := #[.pointer (some ⟨w.heap.size, 0, none⟩), .pointer (some ⟨w.heap.size + 1, 0, none⟩)]) (by simp) (by simp [go_sem]) ?_
  refine (run_rat_caught w.heap.size x _ _ _ _ _ _ _ _ _ _ _ hb hq).mono ?_
  rintro e u' w'' ⟨rfl, rfl, d1, d2, hl⟩
  have hle9 := hl w hle1 (Nat.le_refl _)
  obtain ⟨d10, d11, d12, -⟩ := cells3 d1
  simp [Leaves, settle, results, Try.results57, go_sem, d10, d11, d12, d2]
  exact hle9
theorem plain_CheckFrac1 : Plain Try.prog 58 := fun _ _ => by kernel_rfl
theorem pf_CheckFrac1_ok (L : Nat → Prop) (x : FracA) (r : Rat) (B : Nat) (v : Value) (w : World) (hL : Up w L) (hv : IsFracA L w v x) (hB : ∃ A c A' c', v = .agg #[.bool x.sn, .slice A x.gn.length c, .bool x.sd, .slice A' x.gd.length c'] ∧ w.heap[B]? = some (.cells #[.bool x.sn, .slice A x.gn.length c, .bool x.sd, .slice A' x.gd.length c'] 26)) (hr : x.rat? = some r) :
    Calls Try.prog 58 #[.pointer (some ⟨B, 0, none⟩)] w fun e w' => ∃ v, e = .returned v ∧ Le w w' ∧ QForm v := by
  obtain ⟨A, c, A', c', rfl, hB⟩ := hB
  have hBl := (Array.getElem?_eq_some_iff.1 hB).1
  have hle := le_alloc w (.cells #[.bool false, .slice none 0 0, .slice none 0 0] 59)
  have hB1 := (hle.block B hBl).trans hB
  have r1 := pf_in_some L x r _ _ (hL.le hle) (hv.le hle) hr
  obtain ⟨a0, a1, a2, a3⟩ := cells4 hB
  have hL' := Lib.hid hL
  have hv' := Lib.hid hv
  have hr' := Lib.hid hr
  have hB' := Lib.hid hB
  have r1' := Lib.hid r1
  have hB1' := Lib.hid hB1
  have hle' := Lib.hid hle
  clear hle hB1 r1 hB hr hv hL
  go_enter Try.func58, Try.ntmps58
  go_wp2_with (fail)
  go_at_call 35
  refine r1'.out.mono ?_
  rintro e W1 ⟨v1, rfl, hle1, hrr⟩
  obtain ⟨hle2, hbx⟩ := box_le hle1
  obtain ⟨A1, c1, A2, c2, rfl, -, -⟩ := hrr.form
  obtain ⟨z0, z1, z2, f0, f1, f2⟩ := cells3 hbx
  have hb9 := fun u0 u1 u2 => cells3 (heap_set3 (u0 := u0) (u1 := u1) (u2 := u2) hbx)
  have hle9 := fun u0 u1 u2 => le_set3 (u0 := u0) (u1 := u1) (u2 := u2) hle2 (Nat.le_refl _)
  have hle1' := Lib.hid hle1
  have hrr' := Lib.hid hrr
  have hle2' := Lib.hid hle2
  have hbx' := Lib.hid hbx
  have hb9' := Lib.hid hb9
  have hle9' := Lib.hid hle9
  clear hle9 hb9 hbx hle2 hrr hle1
  go_wp2
  obtain ⟨d0, d1, d2, -⟩ := hb9'.out (.bool (rneg r)) (.slice A1 (dg (rnum r)).length c1) (.slice A2 (dg r.den).length c2)
  exact bodyPost_ret (v := .agg #[.bool (rneg r), .slice A1 (dg (rnum r)).length c1, .slice A2 (dg r.den).length c2]) (by simp [results, Try.results58, go_sem, d0, d1, d2]) rfl ⟨_, rfl, hle9'.out _ _ _, _, _, _, _, _, _, _, rfl⟩
theorem pf_CheckFrac1_no (L : Nat → Prop) (x : FracA) (B : Nat) (v : Value) (w : World) (hL : Up w L) (hv : IsFracA L w v x) (hB : ∃ A c A' c', v = .agg #[.bool x.sn, .slice A x.gn.length c, .bool x.sd, .slice A' x.gd.length c'] ∧ w.heap[B]? = some (.cells #[.bool x.sn, .slice A x.gn.length c, .bool x.sd, .slice A' x.gd.length c'] 26)) (hr : x.rat? = none) :
    Calls Try.prog 58 #[.pointer (some ⟨B, 0, none⟩)] w fun e w' => e = .panicked [{ v := .iface 119 (.agg #[.int .i64 10]), recovered := false }] ∧ Le w w' := by
  obtain ⟨A, c, A', c', rfl, hB⟩ := hB
  have hBl := (Array.getElem?_eq_some_iff.1 hB).1
  have hle := le_alloc w (.cells #[.bool false, .slice none 0 0, .slice none 0 0] 59)
  have hB1 := (hle.block B hBl).trans hB
  have r1 := pf_in_none L x _ _ (hL.le hle) (hv.le hle) hr
  obtain ⟨a0, a1, a2, a3⟩ := cells4 hB
  have hL' := Lib.hid hL
  have hv' := Lib.hid hv
  have hr' := Lib.hid hr
  have hB' := Lib.hid hB
  have r1' := Lib.hid r1
  have hB1' := Lib.hid hB1
  have hle' := Lib.hid hle
  clear hle hB1 r1 hB hr hv hL
  go_enter Try.func58, Try.ntmps58
  go_wp2_with (fail)
  go_at_call 35
  refine r1'.out.mono ?_
  rintro e W1 ⟨rfl, hle1⟩
  obtain ⟨hle2, hbx⟩ := box_le hle1
  have hle1' := Lib.hid hle1
  have hle2' := Lib.hid hle2
  have hbx' := Lib.hid hbx
  clear hbx hle2 hle1
  go_wp2_with (fail)
  exact ⟨rfl, rfl, hle2'.out⟩
theorem pf_CheckFrac (L : Nat → Prop) (x : FracA) (v : Value) (w : World) (hL : Up w L) (hv : IsFracA L w v x) :
    Calls Try.prog 13 #[v] w fun e w' => e = .returned (.int .i64 (okE (okA x))) ∧ Le w w' := by
  have hv0 := hv
  obtain ⟨A, c, B, d, rfl, p1, p2⟩ := hv
  obtain ⟨W0, hW0, hle, k0⟩ : ∃ W0, w.alloc (.cells #[.bool x.sn, .slice A x.gn.length c, .bool x.sd, .slice B x.gd.length d] 26) = W0 ∧ Le w W0 ∧ W0.heap[w.heap.size]? = some (.cells #[.bool x.sn, .slice A x.gn.length c, .bool x.sd, .slice B x.gd.length d] 26) := ⟨_, rfl, le_alloc _ _, by unfold World.alloc; exact Array.getElem?_push_size⟩
  have hmf : ∀ (fn : Fn) (first cap : Array Value) (w : World), (Instr.makeFunc fn first cap).run Try.prog w = .ok (.func fn first cap) w := fun _ _ _ _ => rfl
  have hlt := (Array.getElem?_eq_some_iff.1 k0).1
  cases hr : x.rat? with
  | some r =>
    have he : okE (okA x) = 0 := by unfold okA okE; rw [hr]; rfl
    rw [he]
    have hf : ∀ W, Le W0 W → Calls Try.prog 58 #[.pointer (some ⟨w.heap.size, 0, none⟩)] W fun e w' => ∃ v, e = .returned v ∧ Le W w' ∧ QForm v := fun W hW =>
      pf_CheckFrac1_ok L x r w.heap.size _ W (hL.le (hle.trans hW)) (hv0.le (hle.trans hW)) ⟨_, _, _, _, rfl, (hW.block _ hlt).trans k0⟩ hr
    have hrun := pf_run_rat_ok _ _ W0 plain_CheckFrac1 hf
    have hL' := Lib.hid hL
    have hv0' := Lib.hid hv0
    have p1' := Lib.hid p1
    have p2' := Lib.hid p2
    have hle' := Lib.hid hle
    have k0' := Lib.hid k0
    have hf' := Lib.hid hf
    have hrun' := Lib.hid hrun
    have he' := Lib.hid he
    have hr' := Lib.hid hr
    clear hr he hrun hf k0 hle p2 p1 hv0 hL
    go_enter Try.func13, Try.ntmps13
    go_wp2_with (fail)
    go_at_call 57
    refine hrun'.out.mono ?_
    rintro e W1 ⟨v1, rfl, hle1, ⟨s, A1, n1, c1, A2, n2, c2, rfl⟩⟩
    have hle2 := (hle'.out.trans hle1).trans (le_alloc W1 (.cells #[.bool s, .slice A1 n1 c1, .slice A2 n2 c2] 59))
    have hle1' := Lib.hid hle1
    have hle2' := Lib.hid hle2
    clear hle2 hle1
    go_wp2
    go_ret
    exact ⟨rfl, hle2'.out⟩
  | none =>
    have he : okE (okA x) = 10 := by unfold okA okE; rw [hr]; rfl
    rw [he]
    have hf : ∀ W, Le W0 W → Calls Try.prog 58 #[.pointer (some ⟨w.heap.size, 0, none⟩)] W fun e w' => e = .panicked [{ v := .iface 119 (.agg #[.int .i64 10]), recovered := false }] ∧ Le W w' := fun W hW =>
      pf_CheckFrac1_no L x w.heap.size _ W (hL.le (hle.trans hW)) (hv0.le (hle.trans hW)) ⟨_, _, _, _, rfl, (hW.block _ hlt).trans k0⟩ hr
    have hrun := pf_run_rat_err 10 _ _ W0 plain_CheckFrac1 hf
    have hL' := Lib.hid hL
    have hv0' := Lib.hid hv0
    have p1' := Lib.hid p1
    have p2' := Lib.hid p2
    have hle' := Lib.hid hle
    have k0' := Lib.hid k0
    have hf' := Lib.hid hf
    have hrun' := Lib.hid hrun
    have he' := Lib.hid he
    have hr' := Lib.hid hr
    clear hr he hrun hf k0 hle p2 p1 hv0 hL
    go_enter Try.func13, Try.ntmps13
    go_wp2_with (fail)
    go_at_call 57
    refine hrun'.out.mono ?_
    rintro e W1 ⟨rfl, hle1⟩
    have hle2 := (hle'.out.trans hle1).trans (le_alloc W1 (.cells #[.bool false, .slice none 0 0, .slice none 0 0] 59))
    have hle1' := Lib.hid hle1
    have hle2' := Lib.hid hle2
    clear hle2 hle1
    go_wp2
    go_ret
    exact ⟨rfl, hle2'.out⟩
end Go.Proofs.Ytemdemfknnkcaaa
