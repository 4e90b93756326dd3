/- exact: operated, Add, Sub, Mul, Div, Compare. -/
import Derived.Test.YtbikpadjmmgpcaaOper
namespace Go.Proofs.Ytbikpadjmmgpcaa
open Go.RowKit Go.Shelf
set_option linter.unusedVariables false
set_option linter.unusedSimpArgs false
theorem OperPost.ok {L : Nat → Prop} {r : Rat} {w : World} {e : Ending} {w' : World} (h : OperPost L (.ok r) w e w') : ∃ v, e = .returned v ∧ Le w w' ∧ FracL L w' v r := by
  obtain ⟨hle, ⟨r', v, hr, rfl, hf⟩ | ⟨c, hr, -⟩⟩ := h
  · injection hr with hr
    subst hr
    exact ⟨v, rfl, hle, hf⟩
  · cases hr
theorem OperPost.err {L : Nat → Prop} {c : Int} {w : World} {e : Ending} {w' : World} (h : OperPost L (.error c) w e w') : e = .panicked (flt c) ∧ Le w w' := by
  obtain ⟨hle, ⟨r', v, hr, -⟩ | ⟨c', hr, rfl⟩⟩ := h
  · cases hr
  · injection hr with hr
    subst hr
    exact ⟨rfl, hle⟩
theorem pf_run_frac (L : Nat → Prop) (res : Except Int Rat) (g : FuncId) (cap : Array Value) (w : World) (hg : Plain Try.prog g) (hf : ∀ W, Le w W → Calls Try.prog g cap W (OperPost L res W)) :
    Calls Try.prog 22 #[.func (.func g) #[] cap] w (ResPost L res w) := by
  cases res with
  | ok r =>
    refine (pf_run_frac_ok L r g cap w hg fun W hW => (hf W hW).mono fun e W' h => h.ok).mono ?_
    rintro e w' ⟨v, rfl, hle, h⟩
    exact ⟨hle, v, 0, rfl, h, rfl⟩
  | error c =>
    refine (pf_run_frac_err c g cap w hg fun W hW => (hf W hW).mono fun e W' h => h.err).mono ?_
    rintro e w' ⟨rfl, hle⟩
    exact ⟨hle, zeroF, c, rfl, rfl, rfl⟩
theorem FBox.mk {w W : World} {B : Nat} {x : FracA} {A A' : Option Addr} {c c' : Nat} {L : Nat → Prop} (hv : IsFracA L w (.agg #[.bool x.sn, .slice A x.gn.length c, .bool x.sd, .slice A' x.gd.length c']) x) (hle : Le w W) (hk : W.heap[B]? = some (.cells #[.bool x.sn, .slice A x.gn.length c, .bool x.sd, .slice A' x.gd.length c'] 29)) : FBox W B (.agg #[.bool x.sn, .slice A x.gn.length c, .bool x.sd, .slice A' x.gd.length c']) x :=
  ⟨A, c, A', c', rfl, hk, (hv.le hle).mono fun _ _ => trivial⟩
theorem pf_run_int_cmp (x y : FracA) (g : FuncId) (cap : Array Value) (w : World) (hg : Plain Try.prog g) (hf : ∀ W, Le w W → Calls Try.prog g cap W (CmpPost x y W)) :
    Calls Try.prog 27 #[.func (.func g) #[] cap] w fun e w' => e = .returned (.tuple #[.int .i64 (cmpV x y), .int .i64 (okE (okA x && okA y))]) ∧ Le w w' := by
  cases hb : (okA x && okA y) with
  | true =>
    refine (pf_run_int_ok g cap (cmpV x y) w hg fun W hW => (hf W hW).mono fun e W' h => ?_).mono fun e w' h => h
    obtain ⟨hle, ⟨-, rfl⟩ | ⟨hb2, -⟩⟩ := h
    · exact ⟨rfl, hle⟩
    · rw [hb] at hb2; cases hb2
  | false =>
    rw [cmpV_none hb]
    refine (pf_run_int_err g cap 10 w hg fun W hW => (hf W hW).mono fun e W' h => ?_).mono fun e w' h => h
    obtain ⟨hle, ⟨hb2, -⟩ | ⟨-, rfl⟩⟩ := h
    · rw [hb] at hb2; cases hb2
    · exact ⟨rfl, hle⟩
set_option maxRecDepth 100000 in
theorem pf_Compare (x y : FracA) (va vb : Value) (w : World) (h1 : IsFracA (fun _ => True) w va x) (h2 : IsFracA (fun _ => True) w vb y) :
    Calls Try.prog 7 #[va, vb] w fun e w' => e = .returned (.tuple #[.int .i64 (cmpV x y), .int .i64 (okE (okA x && okA y))]) ∧ Le w w' := by
  have hx0 := h1
  have hy0 := h2
  obtain ⟨A, c, A', c', rfl, p1, p2⟩ := h1
  obtain ⟨B, d, B', d', rfl, q1, q2⟩ := h2
  obtain ⟨W0, hW0, hsz, hle, k0, k1⟩ := new2_le w (.cells #[.bool x.sn, .slice A x.gn.length c, .bool x.sd, .slice A' x.gd.length c'] 29) (.cells #[.bool y.sn, .slice B y.gn.length d, .bool y.sd, .slice B' y.gd.length d'] 29)
  have hmf : ∀ (fn : Fn) (first cap : Array Value) (w : World), (Instr.makeFunc fn first cap).run Try.prog w = .ok (.func fn first cap) w := fun _ _ _ _ => rfl
  have hrun := pf_run_int_cmp x y _ #[.pointer (some ⟨w.heap.size, 0, none⟩), .pointer (some ⟨w.heap.size + 1, 0, none⟩)] W0 plain_Compare1 fun W hW =>
    pf_Compare1 x y _ _ _ _ W (FBox.mk hx0 (hle.trans hW) ((hW.block _ (by omega)).trans k0)) (FBox.mk hy0 (hle.trans hW) ((hW.block _ (by omega)).trans k1))
  obtain ⟨cv, hcv⟩ : ∃ cv, cmpV x y = cv := ⟨_, rfl⟩
  obtain ⟨ev, hev⟩ : ∃ ev, okE (okA x && okA y) = ev := ⟨_, rfl⟩
  rw [hcv, hev] at hrun ⊢
  have hx0' := Lib.hid hx0
  have hy0' := Lib.hid hy0
  have p1' := Lib.hid p1
  have p2' := Lib.hid p2
  have q1' := Lib.hid q1
  have q2' := Lib.hid q2
  have hle' := Lib.hid hle
  have k0' := Lib.hid k0
  have k1' := Lib.hid k1
  have hrun' := Lib.hid hrun
  have hcv' := Lib.hid hcv
  have hev' := Lib.hid hev
  clear hev hcv hrun k1 k0 hle q2 q1 p2 p1 hy0 hx0
  go_enter Try.func7, Try.ntmps7
  go_wp2_with (fail)
  clear hW0
  go_at_call 27
  refine hrun'.out.mono ?_
  rintro e W1 ⟨rfl, hle1⟩
  have hle2 := hle'.out.trans hle1
  have hle1' := Lib.hid hle1
  have hle2' := Lib.hid hle2
  clear hle2 hle1
  go_wp2
  go_ret2
  exact ⟨rfl, hle2'.out⟩
end Go.Proofs.Ytbikpadjmmgpcaa
