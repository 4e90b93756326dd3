/- reference 1: fractions: absolute, Int, Over, Order. -/
import Derived.Test.YtpjmbgfggonhhaaGreatRQ3
import Derived.Test.YtpjmbgfggonhhaaGreatRQ2
import Derived.Test.YtpjmbgfggonhhaaGreatRat4
import Derived.Test.YtpjmbgfggonhhaaGreatMonoR
namespace Go.Proofs.YtpjmbgfggonhhaaGreat
open Go.RowKit Go.Shelf
set_option linter.unusedVariables false
set_option linter.unusedSimpArgs false
theorem arrL_lit3 {L : Nat → Prop} {V : World} (hL : ∀ b, V.heap.size ≤ b → L b) (a b c : Nat) (t : TypeId) : ArrL L (gv .i64) (V.alloc (.cells #[.int .i64 a, .int .i64 b, .int .i64 c] t)) (.slice (some ⟨V.heap.size, 0, none⟩) 3 3) [a, b, c] := by
  refine ⟨some ⟨V.heap.size, 0, none⟩, 3, rfl, Nat.le_refl _, by unfold maxLen; omega, nofun, fun _ => ⟨V.heap.size, 0, rfl, hL _ (Nat.le_refl _), by unfold World.alloc; show V.heap.size < (V.heap.push _).size; rw [Array.size_push]; omega, fun j hj => ?_⟩⟩
  have hk : (V.alloc (.cells #[.int .i64 a, .int .i64 b, .int .i64 c] t)).heap[V.heap.size]? = some (.cells #[.int .i64 a, .int .i64 b, .int .i64 c] t) := by unfold World.alloc; exact Array.getElem?_push_size
  rw [Nat.zero_add, cell_of_row _ _ _ _ t (0, 0) hk]
  match j, hj with
  | 0, _ => rfl
  | 1, _ => rfl
  | 2, _ => rfl
theorem dg3 {N r0 r1 r2 q1 : Nat} (h0 : N % 1000000000 = r0) (h1 : N / 1000000000 = q1) (h2 : q1 % 1000000000 = r1) (h3 : q1 / 1000000000 = r2) (hN : N ≤ 18446744073709551615) : trimL [r0, r1, r2] = dg N := by
  have hB := B9_eq
  have hl : Low [r0, r1, r2] := fun g hg => by
    simp at hg
    rcases hg with rfl | rfl | rfl <;> omega
  rw [trimL_dg hl]
  congr 1
  simp only [nv, hB]
  omega
theorem dg_u64 {N : Nat} (hN : N ≤ 18446744073709551615) : (dg N).length ≤ 3 := dg_length_le (by
  have h1 : B9 ^ 3 = 1000000000000000000000000000 := by rw [B9_eq]
  omega)
set_option maxRecDepth 100000 in
set_option maxHeartbeats 1000000 in
theorem pf_n_absolute (L : Nat → Prop) (z : Int) (w : World) (hL : Up w L) (hz0 : -9223372036854775808 ≤ z) (hz1 : z ≤ 9223372036854775807) :
    Calls Tryz.prog 93 #[.int .i64 z] w fun e w' => ∃ v', e = .returned v' ∧ Le w w' ∧ NumL L .i64 w' v' z.natAbs := by
  obtain ⟨N, hN⟩ : ∃ N, z.natAbs = N := ⟨_, rfl⟩
  rw [hN]
  have hNl : N ≤ 18446744073709551615 := by omega
  obtain ⟨r0, h0⟩ : ∃ r0, N % 1000000000 = r0 := ⟨_, rfl⟩
  obtain ⟨q1, h1⟩ : ∃ q1, N / 1000000000 = q1 := ⟨_, rfl⟩
  obtain ⟨r1, h2⟩ : ∃ r1, q1 % 1000000000 = r1 := ⟨_, rfl⟩
  obtain ⟨r2, h3⟩ : ∃ r2, q1 / 1000000000 = r2 := ⟨_, rfl⟩
  have hd := dg3 h0 h1 h2 h3 hNl
  have b0 : r0 < 1000000000 := by omega
  have b1 : r1 < 1000000000 := by omega
  have b2 : r2 < 1000000000 := by omega
  have bq : (q1 : Int) ≤ 18446744074 := by omega
  have bN : (N : Int) ≤ 18446744073709551615 := by omega
  have i0 : (N : Int) % 1000000000 = (r0 : Int) := by omega
  have i1 : (N : Int) / 1000000000 = (q1 : Int) := by omega
  have i2 : (q1 : Int) % 1000000000 = (r1 : Int) := by omega
  have i3 : (q1 : Int) / 1000000000 = (r2 : Int) := by omega
  have hlit := arrL_lit3 (L := L) (V := w) hL r0 r1 r2 3
  have hlz := le_alloc w (.cells #[.int .i64 r0, .int .i64 r1, .int .i64 r2] 3)
  by_cases hz : z < 0
  · have j0 : -(z + 1) + 1 = (N : Int) := by omega
    have hL' := Lib.hid hL
    have hN' := Lib.hid hN
    have h0' := Lib.hid h0
    have h1' := Lib.hid h1
    have h2' := Lib.hid h2
    have h3' := Lib.hid h3
    have hd' := Lib.hid hd
    have hlit' := Lib.hid hlit
    have hlz' := Lib.hid hlz
    clear hlz hlit hd h3 h2 h1 h0 hN hL
    go_enter Tryz.func93, Tryz.ntmps93
    go_wp2_with (first | (go_at_call 97; ((with_reducible refine (pf_n_cut L _ _ _ hlit'.out).mono ?_); rintro e w' ⟨v2, rfl, rfl, hv2⟩)))
    go_ret
    exact ⟨_, rfl, hlz'.out, by unfold NumL; rw [← hd'.out]; exact hv2⟩
  · have j0 : z = (N : Int) := by omega
    subst j0
    have w1 : IntKind.u64.wrap (N : Int) = (N : Int) := by
      have := u64_pos (N : Int) (by omega) hz1
      simpa using this
    have hL' := Lib.hid hL
    have hN' := Lib.hid hN
    have h0' := Lib.hid h0
    have h1' := Lib.hid h1
    have h2' := Lib.hid h2
    have h3' := Lib.hid h3
    have hd' := Lib.hid hd
    have hlit' := Lib.hid hlit
    have hlz' := Lib.hid hlz
    clear hlz hlit hd h3 h2 h1 h0 hN hL
    go_enter Tryz.func93, Tryz.ntmps93
    go_wp2_with (first | (go_at_call 97; ((with_reducible refine (pf_n_cut L _ _ _ hlit'.out).mono ?_); rintro e w' ⟨v2, rfl, rfl, hv2⟩)))
    go_ret
    exact ⟨_, rfl, hlz'.out, by unfold NumL; rw [← hd'.out]; exact hv2⟩
theorem number_fin64 {L : Nat → Prop} {w W : World} {z : Int} {N : Nat} {s : Bool} {t t2 : TypeId} {A1 : Option Addr} {c1 : Nat} (hUp : Up w L) (hle : Le w W) (hlt : w.heap.size < W.heap.size)
    (hbx : W.heap[w.heap.size]? = some (.cells #[.bool false, .slice none 0 0, .slice none 0 0] t)) (hn : NumL L .i64 W (.slice A1 (dg N).length c1) N) (hN : z.natAbs = N) (hs : decide (z < 0) = s) :
    ∃ X, (((W.setCell ⟨w.heap.size, 0, none⟩ (.bool s)).setCell ⟨w.heap.size, 1, none⟩ (.slice A1 (dg N).length c1)).setCell ⟨w.heap.size, 2, none⟩ (.slice (some ⟨W.heap.size, 0, none⟩) 1 1)).alloc (.cells #[.int .i64 1] t2) = X ∧ (X.cell? ⟨w.heap.size, 0, none⟩ = some (.bool s) ∧ X.cell? ⟨w.heap.size, 1, none⟩ = some (.slice A1 (dg N).length c1) ∧ X.cell? ⟨w.heap.size, 2, none⟩ = some (.slice (some ⟨W.heap.size, 0, none⟩) 1 1)) ∧
      Le w X ∧ RatL L .i64 X (.agg #[.bool s, .slice A1 (dg N).length c1, .slice (some ⟨W.heap.size, 0, none⟩) 1 1]) (z : Rat) := by
  have h1 := le_set3 (u0 := .bool s) (u1 := .slice A1 (dg N).length c1) (u2 := .slice (some ⟨W.heap.size, 0, none⟩) 1 1) hle (Nat.le_refl _)
  have h2 := heap_set3 (u0 := .bool s) (u1 := .slice A1 (dg N).length c1) (u2 := .slice (some ⟨W.heap.size, 0, none⟩) 1 1) hbx
  have h3 := NumL.box3 (u0 := .bool s) (u1 := .slice A1 (dg N).length c1) (u2 := .slice (some ⟨W.heap.size, 0, none⟩) 1 1) hn hbx
  have h4 : (((W.setCell ⟨w.heap.size, 0, none⟩ (.bool s)).setCell ⟨w.heap.size, 1, none⟩ (.slice A1 (dg N).length c1)).setCell ⟨w.heap.size, 2, none⟩ (.slice (some ⟨W.heap.size, 0, none⟩) 1 1)).heap.size = W.heap.size := by simp [World.setCell]
  generalize (((W.setCell ⟨w.heap.size, 0, none⟩ (.bool s)).setCell ⟨w.heap.size, 1, none⟩ (.slice A1 (dg N).length c1)).setCell ⟨w.heap.size, 2, none⟩ (.slice (some ⟨W.heap.size, 0, none⟩) 1 1)) = V at *
  refine ⟨_, rfl, ?_, h1.trans (le_alloc _ _), ?_⟩
  · have hk := le_alloc V (.cells #[.int .i64 1] t2)
    obtain ⟨d0, d1, d2, -⟩ := cells3 ((Below.block hk w.heap.size (by omega)).trans h2)
    exact ⟨d0, d1, d2⟩
  · refine ⟨_, _, by rw [show rneg (z : Rat) = s by rw [← hs]; rfl], ?_, ?_⟩
    · rw [show rnum (z : Rat) = N by rw [← hN]; rfl]
      exact h3.le (le_alloc _ _)
    · rw [show (z : Rat).den = 1 from rfl, ← h4]
      exact numL_newg (g := 1) (fun b hb => hUp b (by omega)) (by omega) dg_one_lt _
set_option maxRecDepth 100000 in
set_option maxHeartbeats 1000000 in
theorem pf_n_Int (L : Nat → Prop) (z : Int) (w : World) (hL : Up w L) (hz0 : -9223372036854775808 ≤ z) (hz1 : z ≤ 9223372036854775807) :
    Calls Tryz.prog 77 #[.int .i64 z] w fun e w' => ∃ v', e = .returned v' ∧ Le w w' ∧ RatL L .i64 w' v' (z : Rat) := by
  obtain ⟨s, hs⟩ : ∃ s, decide (z < 0) = s := ⟨_, rfl⟩
  have hL' := Lib.hid hL
  clear hL
  go_enter Tryz.func77, Tryz.ntmps77
  go_wp2_with (fail)
  go_at_call 93
  refine (pf_n_absolute L z _ (hL'.out.le (le_alloc _ _)) hz0 hz1).mono ?_
  rintro e W1 ⟨v1, rfl, hle1, hn1⟩
  obtain ⟨hle1, hbx⟩ := box_le hle1
  obtain ⟨A1, c1, rfl⟩ := hn1.slice
  have hU1 := hL'.out.le hle1
  obtain ⟨z0, z1, z2, g0, g1, g2⟩ := cells3 hbx
  have hzl := (Array.getElem?_eq_some_iff.1 hbx).1
  obtain ⟨X, hX, ⟨d0, d1, d2⟩, hle9, hfin⟩ := number_fin64 (s := s) (t2 := 3) hL'.out hle1 hzl hbx hn1 rfl hs
  have hle1' := Lib.hid hle1
  have hn1' := Lib.hid hn1
  have hU1' := Lib.hid hU1
  have hbx' := Lib.hid hbx
  have hs' := Lib.hid hs
  have hX' := Lib.hid hX
  clear hX hs hbx hU1 hn1 hle1
  go_wp2
  rw [hX'.out]
  exact bodyPost_ret (v := .agg #[.bool s, .slice A1 (dg z.natAbs).length c1, .slice (some ⟨W1.heap.size, 0, none⟩) 1 1]) (by simp [results, Tryz.results77, go_sem, d0, d1, d2]) rfl ⟨_, rfl, hle9, hfin⟩
end Go.Proofs.YtpjmbgfggonhhaaGreat
