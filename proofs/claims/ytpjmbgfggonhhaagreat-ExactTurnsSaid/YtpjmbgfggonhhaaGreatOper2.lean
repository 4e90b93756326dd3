/- exact: operated, Add, Sub, Mul, Div, Compare. -/
import Derived.Test.YtpjmbgfggonhhaaGreatOper
namespace Go.Proofs.YtpjmbgfggonhhaaGreat
open Go.RowKit Go.Shelf
set_option linter.unusedVariables false
set_option linter.unusedSimpArgs false
theorem OperPost.ok {L : Nat → Prop} {r : Rat} {w : World} {e : Ending} {w' : World} (h : OperPost L (.ok r) w e w') : ∃ v, e = .returned v ∧ Le w w' ∧ FracL L w' v r := by
  obtain ⟨hle, ⟨r', v, hr, rfl, hf⟩ | ⟨c, hr, -⟩⟩ := h
  · injection hr with hr
    subst hr
    exact ⟨v, rfl, hle, hf⟩
  · cases hr
theorem OperPost.err {L : Nat → Prop} {c : Int} {w : World} {e : Ending} {w' : World} (h : OperPost L (.error c) w e w') : e = .panicked (flt c) ∧ Le w w' := by
  obtain ⟨hle, ⟨r', v, hr, -⟩ | ⟨c', hr, rfl⟩⟩ := h
  · cases hr
  · injection hr with hr
    subst hr
    exact ⟨rfl, hle⟩
theorem pf_run_frac (L : Nat → Prop) (res : Except Int Rat) (g : FuncId) (cap : Array Value) (w : World) (hg : Plain Tryz.prog g) (hf : ∀ W, Le w W → Calls Tryz.prog g cap W (OperPost L res W)) :
    Calls Tryz.prog 39 #[.func (.func g) #[] cap] w (ResPost L res w) := by
  cases res with
  | ok r =>
    refine (pf_run_frac_ok L r g cap w hg fun W hW => (hf W hW).mono fun e W' h => h.ok).mono ?_
    rintro e w' ⟨v, rfl, hle, h⟩
    exact ⟨hle, v, 0, rfl, h, rfl⟩
  | error c =>
    refine (pf_run_frac_err c g cap w hg fun W hW => (hf W hW).mono fun e W' h => h.err).mono ?_
    rintro e w' ⟨rfl, hle⟩
    exact ⟨hle, zeroF, c, rfl, rfl, rfl⟩
theorem FBox.mk {w W : World} {B : Nat} {x : FracA} {A A' : Option Addr} {c c' : Nat} {L : Nat → Prop} (hv : IsFracA L w (.agg #[.bool x.sn, .slice A x.gn.length c, .bool x.sd, .slice A' x.gd.length c']) x) (hle : Le w W) (hk : W.heap[B]? = some (.cells #[.bool x.sn, .slice A x.gn.length c, .bool x.sd, .slice A' x.gd.length c'] 26)) : FBox W B (.agg #[.bool x.sn, .slice A x.gn.length c, .bool x.sd, .slice A' x.gd.length c']) x :=
  ⟨A, c, A', c', rfl, hk, (hv.le hle).mono fun _ _ => trivial⟩
end Go.Proofs.YtpjmbgfggonhhaaGreat
