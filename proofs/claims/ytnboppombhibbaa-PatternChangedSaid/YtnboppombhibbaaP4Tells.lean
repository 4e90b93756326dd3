/- pattern: Closes, Motif; the reference's: Closes, Motif. -/
import Derived.Test.YtnboppombhibbaaR4Motif
namespace Go.Proofs.Ytnboppombhibbaa
open Go.RowKit
set_option linter.unusedVariables false
set_option linter.unusedSimpArgs false
/-- A number, if there is no error. -/
def onOkI (E x : Int) : Int := if E = 0 then x else 0
theorem onOkI_zero (x : Int) : onOkI 0 x = x := rfl
theorem onOkI_ne {E : Int} (h : E ≠ 0) (x : Int) : onOkI E x = 0 := if_neg h
set_option maxHeartbeats 1000000 in
theorem pf_pat_Closes (v : Value) (p : Prog) (w : World) (hv : IsProg w v p) (E : Int) (hE : progE p = E) :
    Calls Try.prog 29 #[v] w fun e w' => e = .returned (.tuple #[.int .i64 (onOkI E (closeN p)), .int .i64 E]) ∧ Below w.heap.size w w' := by
  have hv0 := Lib.hid hv
  obtain ⟨v0, v1, v5, rfl, h0, h1, h5⟩ := hv
  clear h0 h1 h5
  by_cases hE0 : E = 0
  · subst hE0
    have hp := benchFacts hE
    have hE' := Lib.hid hE
    clear hE
    rw [onOkI_zero]
    go_enter Try.func29, Try.ntmps29
    go_wp2_with (first | (go_at_call 51; ((with_reducible refine (pf_mounted _ p _ (hv0.out.below (alc1 _ _)) 0 hE'.out).mono ?_); rintro e w' ⟨vb, rfl, hb1, -, hok⟩; obtain ⟨b, rfl, hbb, hbench⟩ := hok rfl; have hbox := (Box.start w _).next hb1; clear hb1 hok)) | (go_at_call 68; ((with_reducible refine (pf_closes b p _ hbench hp).mono ?_); rintro e w' ⟨rfl, n, rfl⟩)))
    go_ret2
    exact ⟨rfl, (hbox.drewN n).below⟩
  · have hne : (E != 0) = true := by simpa using hE0
    rw [onOkI_ne hE0]
    have hE' := Lib.hid hE
    have hE0' := Lib.hid hE0
    clear hE0 hE
    go_enter Try.func29, Try.ntmps29
    go_wp2_with (first | (go_at_call 51; ((with_reducible refine (pf_mounted _ p _ (hv0.out.below (alc1 _ _)) E hE'.out).mono ?_); rintro e w' ⟨vb, rfl, hb1, hn1, -⟩; have hn2 := hn1 hE0'.out; subst hn2; clear hn1)))
    go_ret2
    exact ⟨rfl, ((Box.start w _).next hb1).below⟩
set_option maxHeartbeats 1000000 in
theorem pf_pat_Motif (v : Value) (p : Prog) (w : World) (hv : IsProg w v p) (E : Int) (hE : progE p = E) :
    Calls Try.prog 31 #[v] w fun e w' => e = .returned (.tuple #[.int .i64 (onOkI E (motifN p)), .int .i64 (onOkI E (turnI p)), .int .i64 E]) ∧ Below w.heap.size w w' := by
  have hv0 := Lib.hid hv
  obtain ⟨v0, v1, v5, rfl, h0, h1, h5⟩ := hv
  clear h0 h1 h5
  by_cases hE0 : E = 0
  · subst hE0
    have hp := benchFacts hE
    have hE' := Lib.hid hE
    clear hE
    rw [onOkI_zero, onOkI_zero]
    go_enter Try.func31, Try.ntmps31
    go_wp2_with (first | (go_at_call 51; ((with_reducible refine (pf_mounted _ p _ (hv0.out.below (alc1 _ _)) 0 hE'.out).mono ?_); rintro e w' ⟨vb, rfl, hb1, -, hok⟩; obtain ⟨b, rfl, hbb, hbench⟩ := hok rfl; have hbox := (Box.start w _).next hb1; clear hb1 hok)) | (go_at_call 72; ((with_reducible refine (pf_motif b p _ hbench hp).mono ?_); rintro e w' ⟨rfl, n, rfl⟩)))
    go_ret3
    exact ⟨rfl, (hbox.drewN n).below⟩
  · have hne : (E != 0) = true := by simpa using hE0
    rw [onOkI_ne hE0, onOkI_ne hE0]
    have hE' := Lib.hid hE
    have hE0' := Lib.hid hE0
    clear hE0 hE
    go_enter Try.func31, Try.ntmps31
    go_wp2_with (first | (go_at_call 51; ((with_reducible refine (pf_mounted _ p _ (hv0.out.below (alc1 _ _)) E hE'.out).mono ?_); rintro e w' ⟨vb, rfl, hb1, hn1, -⟩; have hn2 := hn1 hE0'.out; subst hn2; clear hn1)))
    go_ret3
    exact ⟨rfl, ((Box.start w _).next hb1).below⟩
set_option maxHeartbeats 1000000 in
theorem pf_r4_Closes (v : Value) (p : Prog) (w : World) (hv : IsProg w v p) (E : Int) (hE : progE p = E) :
    Calls Try.prog 30 #[v] w fun e w' => e = .returned (.tuple #[.int .i64 (onOkI E (closeN p)), .int .i64 E]) ∧ Below w.heap.size w w' := by
  have hv0 := Lib.hid hv
  obtain ⟨v0, v1, v5, rfl, h0, h1, h5⟩ := hv
  clear h0 h1 h5
  by_cases hE0 : E = 0
  · subst hE0
    have hp := benchFacts hE
    have hE' := Lib.hid hE
    clear hE
    rw [onOkI_zero]
    go_enter Try.func30, Try.ntmps30
    go_wp2_with (first | (go_at_call 23; ((with_reducible refine (pf_r4_Check _ p _ (hv0.out.below (alc1 _ _)) 0 hE'.out).mono ?_); rintro e w' ⟨rfl, hb1⟩; have hbox := (Box.start w _).next hb1; obtain ⟨p0, p1, p2, p3, p4, p5⟩ := hbox.prog; clear hb1)) | (go_at_call 69; ((with_reducible refine (pf_r4_closing _ p _ (hv0.out.below hbox.below) hp).mono ?_); rintro e w' ⟨rfl, hb2⟩)))
    go_ret2
    exact ⟨rfl, (hbox.next hb2).below⟩
  · have hne : (E != 0) = true := by simpa using hE0
    rw [onOkI_ne hE0]
    have hE' := Lib.hid hE
    have hE0' := Lib.hid hE0
    clear hE0 hE
    go_enter Try.func30, Try.ntmps30
    go_wp2_with (first | (go_at_call 23; ((with_reducible refine (pf_r4_Check _ p _ (hv0.out.below (alc1 _ _)) E hE'.out).mono ?_); rintro e w' ⟨rfl, hb1⟩)))
    go_ret2
    exact ⟨rfl, ((Box.start w _).next hb1).below⟩
set_option maxHeartbeats 1000000 in
theorem pf_r4_Motif (v : Value) (p : Prog) (w : World) (hv : IsProg w v p) (E : Int) (hE : progE p = E) :
    Calls Try.prog 32 #[v] w fun e w' => e = .returned (.tuple #[.int .i64 (onOkI E (motifN p)), .int .i64 (onOkI E (turnI p)), .int .i64 E]) ∧ Below w.heap.size w w' := by
  have hv0 := Lib.hid hv
  obtain ⟨v0, v1, v5, rfl, h0, h1, h5⟩ := hv
  clear h0 h1 h5
  by_cases hE0 : E = 0
  · subst hE0
    have hp := benchFacts hE
    have hE' := Lib.hid hE
    clear hE
    rw [onOkI_zero, onOkI_zero]
    go_enter Try.func32, Try.ntmps32
    go_wp2_with (first | (go_at_call 23; ((with_reducible refine (pf_r4_Check _ p _ (hv0.out.below (alc1 _ _)) 0 hE'.out).mono ?_); rintro e w' ⟨rfl, hb1⟩; have hbox := (Box.start w _).next hb1; obtain ⟨p0, p1, p2, p3, p4, p5⟩ := hbox.prog; clear hb1)) | (go_at_call 73; ((with_reducible refine (pf_r4_motif _ p _ (hv0.out.below hbox.below) hp).mono ?_); rintro e w' ⟨rfl, hb2⟩)))
    go_ret3
    exact ⟨rfl, (hbox.next hb2).below⟩
  · have hne : (E != 0) = true := by simpa using hE0
    rw [onOkI_ne hE0, onOkI_ne hE0]
    have hE' := Lib.hid hE
    have hE0' := Lib.hid hE0
    clear hE0 hE
    go_enter Try.func32, Try.ntmps32
    go_wp2_with (first | (go_at_call 23; ((with_reducible refine (pf_r4_Check _ p _ (hv0.out.below (alc1 _ _)) E hE'.out).mono ?_); rintro e w' ⟨rfl, hb1⟩)))
    go_ret3
    exact ⟨rfl, ((Box.start w _).next hb1).below⟩
end Go.Proofs.Ytnboppombhibbaa
