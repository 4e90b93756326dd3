/- barleycornref01: PlusZ, Square. barleycornref01: TimesZ. barleycornref01: One, Nil. barleycornref01: Inverse. barleycornref01: Raised. -/
import Derived.Test.YtbikpadjmmgpcaaGreatTurnKit
namespace Go.Proofs.YtbikpadjmmgpcaaGreat
open Go.RowKit Go.Shelf
set_option linter.unusedVariables false
set_option linter.unusedSimpArgs false
end Go.Proofs.YtbikpadjmmgpcaaGreat
namespace Go.Proofs.YtbikpadjmmgpcaaGreat
open Go.RowKit Go.Shelf
set_option linter.unusedVariables false
set_option linter.unusedSimpArgs false
end Go.Proofs.YtbikpadjmmgpcaaGreat
namespace Go.Proofs.YtbikpadjmmgpcaaGreat
open Go.RowKit Go.Shelf
set_option linter.unusedVariables false
set_option linter.unusedSimpArgs false
set_option maxRecDepth 100000 in
set_option maxHeartbeats 4000000 in
theorem pf_n_Nil (a : G2) (va : Value) (w : World) (ha : TurnL .i64 w va a) : Calls Tryz.prog 83 #[va] w fun e w' => e = .returned (.bool (decide (gnorm a = 0))) ∧ Le w w' := by
  obtain ⟨as1, aA1, an1, ac1, aB1, am1, ad1, as2, aA2, an2, ac2, aB2, am2, ad2, rfl, ha1, ha2⟩ := ha
  obtain ⟨W0, hW0, hle, k0⟩ : ∃ W0, w.alloc (.cells #[.bool as1, .slice aA1 an1 ac1, .slice aB1 am1 ad1, .bool as2, .slice aA2 an2 ac2, .slice aB2 am2 ad2] 114) = W0 ∧ Le w W0 ∧ W0.heap[w.heap.size]? = some (.cells #[.bool as1, .slice aA1 an1 ac1, .slice aB1 am1 ad1, .bool as2, .slice aA2 an2 ac2, .slice aB2 am2 ad2] 114) := ⟨_, rfl, le_alloc _ _, by unfold World.alloc; exact Array.getElem?_push_size⟩
  obtain ⟨c0, c1, c2, c3, c4, c5⟩ := cells6 k0
  have r1 := pf_n_sign (fun _ => True) a.1 _ W0 (ha1.le hle)
  have r2 := fun W (hW : Le W0 W) => pf_n_sign (fun _ => True) a.2 _ W (ha2.le (hle.trans hW))
  obtain ⟨z1, hz1⟩ : ∃ z, rsgn a.1 = z := ⟨_, rfl⟩
  obtain ⟨z2, hz2⟩ : ∃ z, rsgn a.2 = z := ⟨_, rfl⟩
  rw [hz1] at r1
  rw [hz2] at r2
  have hg : decide (gnorm a = 0) = (decide (z1 = 0) && decide (z2 = 0)) := by rw [← hz1, ← hz2, ← Bool.decide_and]; exact decide_eq_decide.2 rsgn_both.symm
  rw [hg]
  have hle' := Lib.hid hle
  have k0' := Lib.hid k0
  have ha1' := Lib.hid ha1
  have ha2' := Lib.hid ha2
  have r1' := Lib.hid r1
  have r2' := Lib.hid r2
  have hz1' := Lib.hid hz1
  have hz2' := Lib.hid hz2
  have hg' := Lib.hid hg
  clear hg hz2 hz1 r2 r1 ha2 ha1 k0 hle
  by_cases h1 : z1 = 0
  · subst h1
    go_enter Tryz.func83, Tryz.ntmps83
    go_wp2_with (fail)
    clear hW0
    go_at_call 50
    refine r1'.out.mono ?_
    rintro e W1 ⟨rfl, hle1⟩
    obtain ⟨d0, d1, d2, d3, d4, d5⟩ := cells6 (box_later hle1 k0'.out)
    have r3 := r2'.out W1 hle1
    have hle1' := Lib.hid hle1
    have r3' := Lib.hid r3
    clear r3 hle1
    go_wp2_with (fail)
    go_at_call 50
    refine r3'.out.mono ?_
    rintro e W2 ⟨rfl, hle2⟩
    have hle9 := (hle'.out.trans hle1'.out).trans hle2
    have hle2' := Lib.hid hle2
    have hle9' := Lib.hid hle9
    clear hle9 hle2
    go_wp2
    go_ret
    exact ⟨by simp; rfl, hle9'.out⟩
  · go_enter Tryz.func83, Tryz.ntmps83
    go_wp2_with (fail)
    clear hW0
    go_at_call 50
    refine r1'.out.mono ?_
    rintro e W1 ⟨rfl, hle1⟩
    have hle9 := hle'.out.trans hle1
    have hd : decide (z1 = 0) = false := decide_eq_false h1
    have hle1' := Lib.hid hle1
    have hle9' := Lib.hid hle9
    clear hle9 hle1
    go_wp2
    go_ret
    exact ⟨by simp [h1], hle9'.out⟩
end Go.Proofs.YtbikpadjmmgpcaaGreat
namespace Go.Proofs.YtbikpadjmmgpcaaGreat
open Go.RowKit Go.Shelf
set_option linter.unusedVariables false
set_option linter.unusedSimpArgs false
end Go.Proofs.YtbikpadjmmgpcaaGreat
namespace Go.Proofs.YtbikpadjmmgpcaaGreat
open Go.RowKit Go.Shelf
set_option linter.unusedVariables false
set_option linter.unusedSimpArgs false
end Go.Proofs.YtbikpadjmmgpcaaGreat
