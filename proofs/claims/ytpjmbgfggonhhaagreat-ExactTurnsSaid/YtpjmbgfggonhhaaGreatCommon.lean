/- exact: numbers of 0 or more: common (the greatest common divisor). -/
import Derived.Test.YtpjmbgfggonhhaaGreatOver2
namespace Go.Proofs.YtpjmbgfggonhhaaGreat
open Go.RowKit Go.Shelf
set_option linter.unusedVariables false
set_option linter.unusedSimpArgs false
theorem NumL.unique {L L' : Nat → Prop} {k : IntKind} {w : World} {v : Value} {m n : Nat} (h : NumL L k w v m) (h' : NumL L' k w v n) : m = n := by
  obtain ⟨A, c, rfl, h1, h2, hN, h3⟩ := h
  obtain ⟨A', c', hv, h1', h2', hN', h3'⟩ := h'
  injection hv with e1 e2 e3
  subst e1 e3
  refine dg_inj.1 (List.ext_getElem e2 fun i hi hi' => ?_)
  obtain ⟨b, off, ha, -, -, hc⟩ := h3 (by omega)
  obtain ⟨b', off', ha', -, -, hc'⟩ := h3' (by omega)
  rw [ha] at ha'
  injection ha' with ha'
  injection ha' with q1 q2
  subst q1 q2
  have h5 := (hc i hi).symm.trans (hc' i hi')
  injection h5 with h5
  unfold gv at h5
  injection h5 with _ h5
  omega
open Classical in
/-- The number that a slice reads as. -/
noncomputable def numOf (w : World) (v : Value) : Nat := if h : ∃ n, NumL (fun _ => True) .u32 w v n then h.choose else 0
theorem numOf_eq {L : Nat → Prop} {w : World} {v : Value} {n : Nat} (h : NumL L .u32 w v n) : numOf w v = n := by
  have h1 : ∃ n, NumL (fun _ => True) .u32 w v n := ⟨n, ArrL.mono h fun _ _ => trivial⟩
  unfold numOf
  rw [dif_pos h1]
  exact h1.choose_spec.unique h
set_option maxRecDepth 100000 in
set_option maxHeartbeats 1000000 in
theorem pf_common (L : Nat → Prop) (a b : Nat) (va vb : Value) (w : World) (hL : Up w L) (ha : NumL L .u32 w va a) (hb : NumL L .u32 w vb b) (hma : (dg a).length ≤ 10000000) (hmb : (dg b).length ≤ 10000000) :
    Calls Tryz.prog 90 #[va, vb] w fun e w' => ∃ v', e = .returned v' ∧ Le w w' ∧ NumL L .u32 w' v' (Nat.gcd a b) := by
  have hL' := Lib.hid hL
  have ha' := Lib.hid ha
  have hb' := Lib.hid hb
  clear hb ha hL
  go_enter Tryz.func90, Tryz.ntmps90
  go_wp2
  go_loopw [0, 1] (fun s0 s1 wr => ∃ x y : Nat, Hid (NumL L .u32 wr s0 x) ∧ Hid (NumL L .u32 wr s1 y) ∧ Hid (Nat.gcd x y = Nat.gcd a b) ∧ (dg x).length ≤ 10000000 ∧ (dg y).length ≤ 10000000 ∧ Hid (Le w wr)) (fun _ s1 wr => numOf wr s1)
  case atStart => exact ⟨a, b, ha', hb', Lib.hid rfl, hma, hmb, Lib.hid (Le.refl _)⟩
  case round =>
    obtain ⟨x, y, hx, hy, hg, lx, ly, hle⟩ := hrel
    obtain ⟨Ax, cx, rfl⟩ := hx.out.slice
    obtain ⟨Ay, cy, rfl⟩ := hy.out.slice
    by_cases h0 : y = 0
    · have hl0 : (dg y).length = 0 := by rw [h0, dg_zero]; rfl
      have hres : NumL L .u32 wr (.slice Ax (dg x).length cx) (Nat.gcd a b) := by rw [← hg.out, h0, Nat.gcd_zero_right]; exact hx.out
      have hli : ¬ (0 < ((dg y).length : Int)) := by omega
      have h0' := Lib.hid h0
      have hres' := Lib.hid hres
      have hl0' := Lib.hid hl0
      clear hl0 hres h0
      go_wp2
      go_ret
      exact ⟨_, rfl, hle.out, hres'.out⟩
    · have hl0 : 0 < (dg y).length := dg_length_pos.2 h0
      have hli : 0 < ((dg y).length : Int) := by omega
      go_wp2_with (fail)
      go_at_call 95
      refine (pf_over L x y _ _ wr (hL'.out.le hle.out) hx.out hy.out lx ly h0).mono ?_
      rintro e w' ⟨v1, v2, rfl, hle2, -, hr⟩
      obtain ⟨A2, c2, rfl⟩ := hr.slice
      have hlt : x % y < y := Nat.mod_lt _ (Nat.pos_of_ne_zero h0)
      have hm1 := numOf_eq hy.out
      have hm2 := numOf_eq hr
      have hy2 := hy.out.le hle2
      have hg2 : Nat.gcd y (x % y) = Nat.gcd a b := by rw [gcd_step]; exact hg.out
      have hlr : (dg (x % y)).length ≤ 10000000 := Nat.le_trans (dg_length_mono (Nat.le_of_lt hlt)) ly
      have hle3 := hle.out.trans hle2
      have hle2' := Lib.hid hle2
      have hr' := Lib.hid hr
      have hlt' := Lib.hid hlt
      have hm1' := Lib.hid hm1
      have hm2' := Lib.hid hm2
      have hy2' := Lib.hid hy2
      have hg2' := Lib.hid hg2
      have hle3' := Lib.hid hle3
      clear hle3 hg2 hy2 hm2 hm1 hlt hr hle2
      go_wp2
      go_roundw
      case rel => exact ⟨y, x % y, hy2', hr', hg2', ly, hlr, hle3'⟩
      case measure => rw [hm2'.out, hm1'.out]; exact hlt'.out
end Go.Proofs.YtpjmbgfggonhhaaGreat
