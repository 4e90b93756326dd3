/- pattern.Lift, pattern.Cut. -/
import Derived.Test.YtnboppombhibbaaListAid
import Derived.Test.YtnboppombhibbaaR4Cut
namespace Go.Proofs.Ytnboppombhibbaa
open Go.RowKit
set_option linter.unusedVariables false
set_option linter.unusedSimpArgs false
theorem IsBench.lt {w : World} {b : Nat} {p : Prog} (h : IsBench w b p) : b < w.heap.size := by
  obtain ⟨v0, v1, v5, vl, hc, _⟩ := h
  exact (Array.getElem?_eq_some_iff.1 hc).1
theorem IsBench.drewN {w : World} {b : Nat} {p : Prog} (h : IsBench w b p) (n : Nat) : IsBench (w.drewN n) b p := h.below (Below.of_drewN _ _)
theorem IsBench.drew {w : World} {b : Nat} {p : Prog} (h : IsBench w b p) : IsBench w.drew b p := h.below (Below.refl _ _).drew
/-- The cells that walks read of a bench. -/
theorem IsBench.cells {w : World} {b : Nat} {p : Prog} (h : IsBench w b p) : ∃ v5 vl, Ints w v5 p.shifts ∧ Ints w vl (liftL p.ros p.rub) ∧
    w.cell? ⟨b, 2, none⟩ = some (.int .i64 p.start) ∧ w.cell? ⟨b, 3, none⟩ = some (.int .i64 p.throw) ∧ w.cell? ⟨b, 4, none⟩ = some (.int .i64 p.adv) ∧ w.cell? ⟨b, 5, none⟩ = some v5 ∧
    w.cell? ⟨b, 6, none⟩ = some vl ∧ w.cell? ⟨b, 7, none⟩ = some (.int .i64 p.ros.length) ∧ w.cell? ⟨b, 8, none⟩ = some (.int .i64 p.shifts.length) ∧ w.cell? ⟨b, 9, none⟩ = some (.int .i64 (periodL (liftL p.ros p.rub))) := by
  obtain ⟨v0, v1, v5, vl, hc, h0, h1, h5, hl⟩ := h
  obtain ⟨c0, c1, c2, c3, c4, c5, c6, c7, c8, c9⟩ := bench_low hc
  exact ⟨v5, vl, h5, hl, c2, c3, c4, c5, c6, c7, c8, c9⟩
set_option maxRecDepth 100000 in
set_option maxHeartbeats 4000000 in
theorem pf_pat_Lift (v : Value) (p : Prog) (w : World) (hv : IsProg w v p) (E : Int) (hE : progE p = E) :
    Calls Try.prog 16 #[v] w fun e w' => ∃ v', e = .returned (.tuple #[v', .int .i64 E]) ∧ Below w.heap.size w w' ∧ w'.ownsRow w.heap.size 3 1 v' (onOk E (liftL p.ros p.rub)).length ((onOk E (liftL p.ros p.rub)).map vint) := by
  have hv0 := Lib.hid hv
  obtain ⟨v0, v1, v5, rfl, h0, h1, h5⟩ := hv
  clear h0 h1 h5
  by_cases hE0 : E = 0
  · subst hE0
    have hp := benchFacts hE
    have hr0 := hp.ros0
    have hr1 := hp.ros1
    have hL0 := liftL_length p.ros p.rub
    have hE' := Lib.hid hE
    have hL0' := Lib.hid hL0
    clear hL0 hE
    go_enter Try.func16, Try.ntmps16
    go_wp2_with (first | (go_at_call 51; ((with_reducible refine (pf_mounted _ p _ (hv0.out.below (alc1 _ _)) 0 hE'.out).mono ?_); rintro e w' ⟨vb, rfl, hb1, -, hok⟩; obtain ⟨b, rfl, hbb, hbench⟩ := hok rfl; obtain ⟨v5', vl, -, hl, -, -, -, -, c6, c7, -, -⟩ := hbench.cells; have hbox := (Box.start w _).next hb1; have hblt := hbench.lt; have hl' := Lib.hid hl; clear hb1 hok hbench hl)) | (at_make; go_must (refine wpList_makeI _ rfl _ _ 22 rfl w.heap.size 3 elemInt p.ros.length rfl rfl (by omega) hbox.size ?_)))
    intro w3 ho hb3 hlt3
    have d6 := (hb3.cell (p := ⟨b, 6, none⟩) hblt).trans c6
    have hbox3 := hbox.next hb3
    have hl3 := Lib.hid (hl'.out.below hb3)
    have ho' := Lib.hid ho
    have hg : w.heap.size ≤ w3.heap.size := hbox3.size
    clear c6 c7 hb3 ho hl' hblt
    go_wp2_with (first | refine wpList_copyI rfl (.tmp 20) (.tmp 24) 22 rfl w.heap.size 3 elemInt _ _ p.ros.length _ (liftL p.ros p.rub) rfl rfl ho'.out hl3.out hL0'.out hg ?_)
    intro w4 ho4 hb4
    have ho4' := Lib.hid ho4
    clear ho4
    go_wp2
    go_ret2
    exact ⟨_, rfl, hbox3.below.trans hb4, by rw [onOk_zero, hL0'.out]; exact ho4'.out⟩
  · have hne : (E != 0) = true := by simpa using hE0
    have hn := Lib.hid (onOk_ne hE0 (liftL p.ros p.rub))
    have hE' := Lib.hid hE
    have hE0' := Lib.hid hE0
    clear hE0 hE
    go_enter Try.func16, Try.ntmps16
    go_wp2_with (first | (go_at_call 51; ((with_reducible refine (pf_mounted _ p _ (hv0.out.below (alc1 _ _)) E hE'.out).mono ?_); rintro e w' ⟨vb, rfl, hb1, hn1, -⟩; have hn2 := hn1 hE0'.out; subst hn2; clear hn1)))
    go_ret2
    exact ⟨_, rfl, ((Box.start w _).next hb1).below, by rw [hn.out]; exact World.ownsRow_nil _ _ _ _⟩
end Go.Proofs.Ytnboppombhibbaa
