/- Layer 4: erase, same, Twin, SameProgram. -/
import Derived.Test.YtnboppombhibbaaR4Cut
import Derived.Test.YtnboppombhibbaaOwn2
namespace Go.Proofs.Ytnboppombhibbaa
open Go.RowKit
set_option linter.unusedVariables false
set_option linter.unusedSimpArgs false
theorem pf_l4_same (v v' : Value) (xs ys : List Int) (w : World) (hx : Ints w v xs) (hy : Ints w v' ys) :
    Calls Try.prog 24 #[v, v'] w fun e w' => e = .returned (.bool (xs == ys)) ∧ ∃ n, w' = w.drewN n := by
  have hx' := Lib.hid hx
  have hy' := Lib.hid hy
  clear hy hx
  go_enter Try.func24, Try.ntmps24
  go_wp2_with (first | (go_at_call 66; ((with_reducible refine (pf_SameInts _ _ xs ys _ hx'.out hy'.out).mono ?_); rintro e w' ⟨rfl, n, rfl⟩)))
  go_ret
  exact ⟨rfl, n, rfl⟩
theorem grown_put {w wr : World} {g : Nat} (h : w.grownBy wr (some g)) (hg : g < w.heap.size) (k : Nat) (u : Value) : w.grownBy (wr.setCell ⟨g, k, none⟩ u) (some g) :=
  ⟨h.os, h.tape, h.output, by simpa [World.setCell] using h.size, fun b hb hne => (Below.heap_setCell _ _ _ _ (by show b ≠ g; intro e; exact hne (by rw [e]))).trans (h.block b hb hne)⟩
theorem pf_l4_erase (v : Value) (xs : List Int) (w : World) (base : Nat) (hx : w.ownsRow base 3 1 v xs.length (xs.map vint)) (hl : xs.length ≤ 1000000) :
    Calls Try.prog 25 #[v] w fun e w' => e = .returned (.tuple #[]) ∧ Below base w w' ∧ w.grownBy w' v.ownBlock := by
  have hx' := Lib.hid hx
  by_cases h0 : 0 < xs.length
  · obtain ⟨g, c, rfl, hg, hgl, hgc, hgm⟩ := own_form hx h0
    unfold maxLen at hgm
    clear hx
    go_enter Try.func25, Try.ntmps25
    go_wp2
    go_loopw [5, 2] (fun i _ wr => ∃ k : Nat, k ≤ xs.length ∧ i = .int .i64 k ∧ Hid (Below base w wr ∧ w.grownBy wr (some g)) ∧ Hid (wr.ownsRow base 3 1 (.slice (some ⟨g, 0, none⟩) xs.length c) xs.length ((part (fun _ => -7) xs k).map vint))) (fun i _ _ => xs.length - (intOf i).toNat)
    case atStart => exact ⟨0, Nat.zero_le _, rfl, Lib.hid ⟨Below.refl _ _, World.grownBy.refl _ _⟩, by rw [part_zero]; exact hx'⟩
    case round =>
      obtain ⟨k, hk, rfl, hb, hown⟩ := hrel
      by_cases hlt : k < xs.length
      · have hck := own_cell hown.out (part_length _ _ _) (part_get (fun _ => -7) xs k hlt)
        have hfr := hown.out.frozenAt k
        have hset := part_set (fun _ => -7) xs k hlt
        generalize xs[k] = x at hck hset
        have hset' := Lib.hid hset
        clear hset
        go_wp2
        go_roundw
        case rel => exact ⟨k + 1, by omega, by go_num, Lib.hid ⟨hb.out.1.setCell (p := ⟨g, k, none⟩) hg _, grown_put hb.out.2 hgl _ _⟩, Lib.hid (by have h := own_put hown.out k (-7); rw [hset'.out] at h; exact h)⟩
        case measure => simp [intOf]; omega
      · obtain rfl : k = xs.length := by omega
        go_wp2
        go_end0
        exact ⟨rfl, hb.out.1, hb.out.2⟩
  · have hv : ∃ A c, v = .slice A 0 c := by
      rcases hx.2 with ⟨rfl, _⟩ | ⟨g, cap, cur, rfl, _⟩
      · exact ⟨_, _, rfl⟩
      · exact ⟨_, cap, by rw [show xs.length = 0 by omega]⟩
    obtain ⟨A, c, rfl⟩ := hv
    clear hx
    go_enter Try.func25, Try.ntmps25
    go_wp2
    go_loop [5, 2] (fun i _ => i = .int .i64 0) (fun _ _ => 0)
    case atStart => exact rfl
    case round =>
      obtain rfl := hrel
      go_wp2
      go_end0
      exact ⟨rfl, Below.refl _ _, World.grownBy.refl _ _⟩
set_option maxRecDepth 100000 in
set_option maxHeartbeats 1000000 in
theorem pf_r4_SameProgram (v v' : Value) (p : Prog) (w : World) (hv : IsProg w v p) (hv' : IsProg w v' p) :
    Calls Try.prog 26 #[v, v'] w fun e w' => e = .returned (.bool true) ∧ Below w.heap.size w w' := by
  obtain ⟨v0, v1, v5, rfl, h0, h1, h5⟩ := hv
  obtain ⟨u0, u1, u5, rfl, k0, k1, k5⟩ := hv'
  have e0 : (p.ros == p.ros) = true := by simp
  have e1 : (p.rub == p.rub) = true := by simp
  have e5 : (p.shifts == p.shifts) = true := by simp
  have h0' := Lib.hid h0
  have h1' := Lib.hid h1
  have h5' := Lib.hid h5
  have k0' := Lib.hid k0
  have k1' := Lib.hid k1
  have k5' := Lib.hid k5
  have e0' := Lib.hid e0
  have e1' := Lib.hid e1
  have e5' := Lib.hid e5
  clear e5 e1 e0 k5 k1 k0 h5 h1 h0
  go_enter Try.func26, Try.ntmps26
  go_wp2_with (first | (go_at_call 66; ((with_reducible refine (pf_SameInts v0 u0 p.ros p.ros _ ?_ ?_).mono ?_); rotate_left 2; rintro e w' ⟨rfl, n, rfl⟩; rw [e0'.out]; rotate_left; exact h0'.out.below (by first | exact alc2 _ _ _ | exact below_drewN' (alc2 _ _ _) _ | exact below_drewN' (below_drewN' (alc2 _ _ _) _) _); exact k0'.out.below (by first | exact alc2 _ _ _ | exact below_drewN' (alc2 _ _ _) _ | exact below_drewN' (below_drewN' (alc2 _ _ _) _) _))) | (go_at_call 66; ((with_reducible refine (pf_SameInts v1 u1 p.rub p.rub _ ?_ ?_).mono ?_); rotate_left 2; rintro e w' ⟨rfl, n, rfl⟩; rw [e1'.out]; rotate_left; exact h1'.out.below (by first | exact alc2 _ _ _ | exact below_drewN' (alc2 _ _ _) _ | exact below_drewN' (below_drewN' (alc2 _ _ _) _) _); exact k1'.out.below (by first | exact alc2 _ _ _ | exact below_drewN' (alc2 _ _ _) _ | exact below_drewN' (below_drewN' (alc2 _ _ _) _) _))) | (go_at_call 66; ((with_reducible refine (pf_SameInts v5 u5 p.shifts p.shifts _ ?_ ?_).mono ?_); rotate_left 2; rintro e w' ⟨rfl, n, rfl⟩; rw [e5'.out]; rotate_left; exact h5'.out.below (by first | exact alc2 _ _ _ | exact below_drewN' (alc2 _ _ _) _ | exact below_drewN' (below_drewN' (alc2 _ _ _) _) _); exact k5'.out.below (by first | exact alc2 _ _ _ | exact below_drewN' (alc2 _ _ _) _ | exact below_drewN' (below_drewN' (alc2 _ _ _) _) _))))
  go_ret
  exact ⟨rfl, below_drewN' (alc2 _ _ _) _⟩
end Go.Proofs.Ytnboppombhibbaa
