/- The reference of layer 4: Phases. -/
import Derived.Test.YtnboppombhibbaaR4Check
import Derived.Test.YtnboppombhibbaaListAid
namespace Go.Proofs.Ytnboppombhibbaa
open Go.RowKit
set_option linter.unusedVariables false
set_option linter.unusedSimpArgs false
/-- The phases of n cuts from one on. -/
def phasesL (p : Prog) (a : Int) (n : Nat) : List Int := (List.range n).map fun (k : Nat) => phaseI p (a + k)
theorem phasesL_succ (p : Prog) (a : Int) (n : Nat) : phasesL p a (n + 1) = phasesL p a n ++ [phaseI p (a + n)] := by unfold phasesL; rw [List.range_succ]; simp
theorem phasesL_length (p : Prog) (a : Int) (n : Nat) : (phasesL p a n).length = n := by simp [phasesL]
/-- The error of 'Phases'. -/
def phasesE (p : Prog) (a n : Int) : Int := if progE p ≠ 0 then progE p else if within a (-5000) 5000 && within n 0 200 then 0 else 2
set_option maxRecDepth 100000 in
set_option maxHeartbeats 4000000 in
theorem pf_r4_Phases (v : Value) (p : Prog) (a n : Int) (w : World) (hv : IsProg w v p) (E : Int) (hE : phasesE p a n = E) :
    Calls Try.prog 19 #[v, .int .i64 a, .int .i64 n] w fun e w' => ∃ v', e = .returned (.tuple #[v', .int .i64 E]) ∧ Below w.heap.size w w' ∧ Ints w' v' (onOk E (phasesL p a n.toNat)) := by
  have hv0 := Lib.hid hv
  obtain ⟨v0, v1, v5, rfl, h0, h1, h5⟩ := hv
  clear h0 h1 h5
  unfold phasesE at hE
  obtain ⟨F, hF⟩ : ∃ F, progE p = F := ⟨_, rfl⟩
  rw [hF] at hE
  by_cases hF0 : F = 0
  · subst hF0
    have hp := benchFacts hF
    obtain ⟨X1, hX1⟩ : ∃ X, within a (-5000) 5000 = X := ⟨_, rfl⟩
    obtain ⟨X2, hX2⟩ : ∃ X, within n 0 200 = X := ⟨_, rfl⟩
    rw [hX1, hX2] at hE
    have hF' := Lib.hid hF
    have hX1' := Lib.hid hX1
    have hX2' := Lib.hid hX2
    clear hX2 hX1 hF
    by_cases hall : X1 = true ∧ X2 = true
    · obtain ⟨rfl, rfl⟩ := hall
      obtain rfl : 0 = E := hE
      obtain ⟨a1, a2⟩ := within_iff.1 hX1'.out
      obtain ⟨n1, n2⟩ := within_iff.1 hX2'.out
      obtain ⟨m, rfl⟩ : ∃ m : Nat, n = m := ⟨n.toNat, by omega⟩
      rw [onOk_zero, Int.toNat_natCast]
      go_enter Try.func19, Try.ntmps19
      go_wp2_with (first | (go_at_call 23; ((with_reducible refine (pf_r4_Check _ p _ (hv0.out.below (alc1 _ _)) 0 hF'.out).mono ?_); rintro e w' ⟨rfl, hb1⟩; have hbox := (Box.start w _).next hb1; clear hb1)) | (go_at_call 55; ((with_reducible refine (pf_within_barleycornref04 _ _ _ _).mono ?_); rintro e w' ⟨rfl, rfl⟩; first | rw [hX1'.out] | rw [hX2'.out])))
      go_loopw [10, 9] (fun i r wr => ∃ k : Nat, k ≤ m ∧ i = .int .i64 k ∧ Box w w.heap.size (.cells #[v0, v1, .int .i64 p.start, .int .i64 p.throw, .int .i64 p.adv, v5] 24) wr ∧ Hid (wr.ownsRow (w.heap.size + 1) 3 1 r (phasesL p a k).length ((phasesL p a k).map vint))) (fun i _ _ => m - (intOf i).toNat)
      case atStart => exact ⟨0, Nat.zero_le _, rfl, hbox, Lib.hid (World.ownsRow_nil _ _ _ _)⟩
      case round =>
        obtain ⟨k, hk, rfl, hbox, hown⟩ := hrel
        by_cases hlt : k < m
        · obtain ⟨p0, p1, p2, p3, p4, p5⟩ := hbox.prog
          have hsz := hbox.size
          have hsuc := Lib.hid (phasesL_succ p a k)
          have hlen := phasesL_length p a k
          generalize phasesL p a k = L at hown hsuc hlen
          obtain ⟨y, hy⟩ : ∃ y, phaseI p (a + k) = y := ⟨_, rfl⟩
          have hy' := Lib.hid hy
          clear hy
          go_wp2_with (first | (go_at_call 56; ((with_reducible refine (pf_r4_Phase _ p _ _ (hv0.out.below hbox.below) hp (by omega) (by omega)).mono ?_); rintro e w' ⟨rfl, hb2⟩; rw [hy'.out]; have hbox2 := hbox.next hb2; have hown2 := Lib.hid (own_below hown.out hb2); have hsz2 := hbox2.size; have hlt2 := hbox2.lt; clear hbox hown hb2 p0 p1 p2 p3 p4 p5)) | (at_builtin; go_must (refine wpList_appI rfl _ _ 22 rfl (w.heap.size + 1) 3 elemInt _ L rfl (hown2.out.alloc _) _ [y] rfl (one_newI _ _ _) (by simp; omega) (by simp; omega) ?_)))
          intro v3 w3 h1 h2 h3 _
          have h1' := Lib.hid h1
          clear h1
          have hbox3 : Box w w.heap.size (.cells #[v0, v1, .int .i64 p.start, .int .i64 p.throw, .int .i64 p.adv, v5] 24) w3 := (hbox2.alloc _).nextB h2 (by omega) (by omega)
          clear h2 h3
          go_wp2
          go_roundw
          case rel => exact ⟨k + 1, by omega, by go_num, hbox3, Lib.hid (by have h := h1'.out; rw [hsuc.out, hy'.out]; simpa [hlen] using h)⟩
          case measure => simp [intOf]; omega
        · obtain rfl : k = m := by omega
          go_wp2
          go_ret2
          exact ⟨_, rfl, hbox.below, own_ints hown.out⟩
    · obtain rfl : 2 = E := by
        rw [← hE]
        cases X1 <;> cases X2 <;> simp_all
      clear hE
      cases X1
      rotate_left
      · cases X2
        rotate_left
        · exact absurd ⟨rfl, rfl⟩ hall
        all_goals
          clear hall
          go_enter Try.func19, Try.ntmps19
          go_wp2_with (first | (go_at_call 23; ((with_reducible refine (pf_r4_Check _ p _ (hv0.out.below (alc1 _ _)) 0 hF'.out).mono ?_); rintro e w' ⟨rfl, hb1⟩; have hbox := (Box.start w _).next hb1; clear hb1)) | (go_at_call 55; ((with_reducible refine (pf_within_barleycornref04 _ _ _ _).mono ?_); rintro e w' ⟨rfl, rfl⟩; first | rw [hX1'.out] | rw [hX2'.out])))
          go_ret2
          exact ⟨_, rfl, hbox.below, Arr.nil _ _⟩
      all_goals
        clear hall
        go_enter Try.func19, Try.ntmps19
        go_wp2_with (first | (go_at_call 23; ((with_reducible refine (pf_r4_Check _ p _ (hv0.out.below (alc1 _ _)) 0 hF'.out).mono ?_); rintro e w' ⟨rfl, hb1⟩; have hbox := (Box.start w _).next hb1; clear hb1)) | (go_at_call 55; ((with_reducible refine (pf_within_barleycornref04 _ _ _ _).mono ?_); rintro e w' ⟨rfl, rfl⟩; first | rw [hX1'.out] | rw [hX2'.out])))
        go_ret2
        exact ⟨_, rfl, hbox.below, Arr.nil _ _⟩
  · rw [if_pos hF0] at hE
    subst hE
    have hne : (F != 0) = true := by simpa using hF0
    have hn := Lib.hid (onOk_ne hF0 (phasesL p a n.toNat))
    have hF' := Lib.hid hF
    have hF0' := Lib.hid hF0
    clear hF0 hF
    go_enter Try.func19, Try.ntmps19
    go_wp2_with (first | (go_at_call 23; ((with_reducible refine (pf_r4_Check _ p _ (hv0.out.below (alc1 _ _)) F hF'.out).mono ?_); rintro e w' ⟨rfl, hb1⟩)))
    go_ret2
    exact ⟨_, rfl, ((Box.start w _).next hb1).below, by rw [hn.out]; exact Arr.nil _ _⟩
end Go.Proofs.Ytnboppombhibbaa
