/- Contracts of package rosette: under, Under, Grind. -/
import Derived.Test.YtaifechmeagkhaaUnderLaw
namespace Go.Proofs.Ytaifechmeagkhaa
open Go.RowKit
set_option linter.unusedVariables false
set_option linter.unusedSimpArgs false
theorem pf_under1 (h d : Int) (W : World) (hh : 0 ≤ h ∧ h ≤ 10000) (hd : 0 ≤ d ∧ d ≤ 10000) : Calls Try.prog 27 #[.int .i64 h, .int .i64 d] W fun e w' => e = .returned (.int .i64 (underM h d)) ∧ W = w' := by
  obtain ⟨h1, h2⟩ := hh
  obtain ⟨h3, h4⟩ := hd
  go_enter Try.func27, Try.ntmps27
  go_wp2
  go_ret
  exact ⟨rfl, rfl⟩
theorem pf_under2 (x y : Int) (W : World) : Calls Try.prog 28 #[.int .i64 x, .int .i64 y] W fun e w' => e = .returned (.int .i64 (underK x y)) ∧ W = w' := by
  unfold underK
  by_cases h : y < x
  · rw [if_pos h]
    go_enter Try.func28, Try.ntmps28
    go_wp2
    go_ret
    exact ⟨rfl, rfl⟩
  · rw [if_neg h]
    have h' : x ≤ y := by omega
    go_enter Try.func28, Try.ntmps28
    go_wp2
    go_ret
    exact ⟨rfl, rfl⟩
theorem pf_under (vf vb : Value) (f b : List Int) (w : World) (hf : Ints w vf f) (hb : Ints w vb b) (hfo : rosOk f = true) (hbo : rubOk b f.length = true) :
    Calls Try.prog 19 #[vf, vb] w fun e w' => ∃ v', e = .returned v' ∧ Below w.heap.size w w' ∧ w'.ownsRow w.heap.size 3 1 v' (underL f b).length ((underL f b).map vint) := by
  have hf0 := Lib.hid hf
  have hb0 := Lib.hid hb
  obtain ⟨A, c, rfl, hlc, hcm, _, hr⟩ := hf
  obtain ⟨A', c', rfl, hlc', hcm', _, hr'⟩ := hb
  clear hr hr'
  go_enter Try.func19, Try.ntmps19
  go_wp2_with (first | (go_at_call 26; refine (pf_picked f b _ _ _ hf0.out hb0.out (-1) 27 28 underM underK hfo hbo (.inr rfl) (fun _ _ => by kernel_rfl) (fun _ _ => by kernel_rfl) (fun h d W h1 h2 => pf_under1 h d W h1 h2) (fun h d h1 h2 => by unfold Near underM; omega) (fun x y W _ _ => pf_under2 x y W) (fun x y h1 h2 => by unfold Near underK at *; split <;> omega)).mono ?_; rintro e w' ⟨v', rfl, h1, h2⟩))
  go_ret
  exact ⟨v', rfl, h1, h2⟩
/-- made, with two functions. -/
theorem pf_made2 (g1 g2 : Nat) (G1 G2 : List Int → List Int → List Int) (vf vb : Value) (f b : List Int) (w : World) (ba : Nat) (hf : Ints w vf f) (hb : Ints w vb b) (hba : ba < w.heap.size)
    (hc : w.cell? ⟨ba, 0, none⟩ = some (.func (.func g1) #[] #[])) (hc2 : w.cell? ⟨ba, 1, none⟩ = some (.func (.func g2) #[] #[])) (hg : Plain Try.prog g1) (hg2 : Plain Try.prog g2)
    (hok1 : rosOk f = true → rubOk b f.length = true → rosOk (G1 f b) = true ∧ rubOk b (G1 f b).length = true)
    (hG : ∀ (vf' vb' : Value) (W : World), Ints W vf' f → Ints W vb' b → rosOk f = true → rubOk b f.length = true → Calls Try.prog g1 #[vf', vb'] W fun e w' => ∃ v', e = .returned v' ∧ Below W.heap.size W w' ∧ w'.ownsRow W.heap.size 3 1 v' (G1 f b).length ((G1 f b).map vint))
    (hG2 : ∀ (vf' vb' : Value) (W : World), Ints W vf' (G1 f b) → Ints W vb' b → rosOk (G1 f b) = true → rubOk b (G1 f b).length = true → Calls Try.prog g2 #[vf', vb'] W fun e w' => ∃ v', e = .returned v' ∧ Below W.heap.size W w' ∧ w'.ownsRow W.heap.size 3 1 v' (G2 (G1 f b) b).length ((G2 (G1 f b) b).map vint))
    (E : Int) (hE : bothE f b = E) :
    Calls Try.prog 18 #[vf, vb, .slice (some ⟨ba, 0, none⟩) 2 2] w fun e w' => ∃ v', e = .returned (.tuple #[v', .int .i64 E]) ∧ Below w.heap.size w w' ∧
      (E = 0 → w'.ownsRow w.heap.size 3 1 v' (G2 (G1 f b) b).length ((G2 (G1 f b) b).map vint)) ∧ (E ≠ 0 → v' = .slice none 0 0) := by
  have hf0 := Lib.hid hf
  have hb0 := Lib.hid hb
  obtain ⟨A, c, rfl, hlc, hcm, _, hr⟩ := hf
  obtain ⟨A', c', rfl, hlc', hcm', _, hr'⟩ := hb
  have hg' := hg
  have hg2' := hg2
  unfold Plain at hg' hg2'
  have hE' := Lib.hid hE
  clear hr hr' hE
  by_cases h0 : E = 0
  · have hok := bothE_zero (hE'.out.trans h0)
    have hok2 := hok1 hok.1 hok.2
    have hok' := Lib.hid hok
    have hok2' := Lib.hid hok2
    clear hok hok2 hok1
    subst h0
    go_enter Try.func18, Try.ntmps18
    go_wp2_with (first | (go_at_call 25; refine (pf_both _ _ f b _ hf0.out hb0.out).mono ?_; rintro e w' ⟨rfl, rfl⟩; rw [hE'.out]))
    go_loopw [19, 0] (fun i s wr => ∃ k : Nat, k ≤ 2 ∧ i = .int .i64 k ∧ Below w.heap.size w wr ∧ Hid ((k = 0 → s = .slice A f.length c ∧ wr = w) ∧ (k = 1 → wr.ownsRow w.heap.size 3 1 s (G1 f b).length ((G1 f b).map vint)) ∧ (k = 2 → wr.ownsRow w.heap.size 3 1 s (G2 (G1 f b) b).length ((G2 (G1 f b) b).map vint)))) (fun i _ _ => 2 - (intOf i).toNat)
    case atStart => exact ⟨0, by omega, rfl, Below.refl _ _, ⟨fun _ => ⟨rfl, rfl⟩, fun h => absurd h (by omega), fun h => absurd h (by omega)⟩⟩
    case round =>
      obtain ⟨k, hk, rfl, hbw, hst⟩ := hrel
      obtain rfl | rfl | rfl : k = 0 ∨ k = 1 ∨ k = 2 := by omega
      · obtain ⟨rfl, rfl⟩ := hst.out.1 rfl
        clear hst
        go_wp2_with (first | (refine (hG _ _ _ hf0.out hb0.out hok'.out.1 hok'.out.2).mono ?_; rintro e w' ⟨v', rfl, h1, h2⟩; have h2' := Lib.hid h2; clear h2))
        go_roundw
        case rel => exact ⟨1, by omega, by go_num, h1, ⟨fun h => absurd h (by omega), fun _ => h2'.out, fun h => absurd h (by omega)⟩⟩
        case measure => simp [intOf]
      · have hst' := Lib.hid (hst.out.2.1 rfl)
        clear hst
        have hcw : wr.cell? ⟨ba, 1, none⟩ = some (.func (.func g2) #[] #[]) := (hbw.cell (p := ⟨ba, 1, none⟩) hba).trans hc2
        have hbz := hbw.size
        clear hc hc2
        go_wp2_with (first | (refine (hG2 _ _ _ (Arr.of_own hst'.out) (hb0.out.below hbw) hok2'.out.1 hok2'.out.2).mono ?_; rintro e w' ⟨v', rfl, h1, h2⟩; have h2' := Lib.hid (own_base h2 hbz); clear h2))
        go_roundw
        case rel => exact ⟨2, by omega, by go_num, hbw.trans (h1.mono hbz), ⟨fun h => absurd h (by omega), fun h => absurd h (by omega), fun _ => h2'.out⟩⟩
        case measure => simp [intOf]
      · have hst' := Lib.hid (hst.out.2.2 rfl)
        clear hst
        go_wp2
        go_ret2
        exact ⟨_, rfl, hbw, fun _ => hst'.out, fun h => absurd rfl h⟩
  · have hne : (E != 0) = true := by simpa using h0
    have h0' := Lib.hid h0
    clear h0
    go_enter Try.func18, Try.ntmps18
    go_wp2_with (first | (go_at_call 25; refine (pf_both _ _ f b _ hf0.out hb0.out).mono ?_; rintro e w' ⟨rfl, rfl⟩; rw [hE'.out]))
    go_ret2
    exact ⟨_, rfl, Below.refl _ _, fun h => absurd h h0'.out, fun _ => rfl⟩
theorem pf_ros_Grind (vf vb : Value) (f b : List Int) (w : World) (hf : Ints w vf f) (hb : Ints w vb b) (E : Int) (hE : bothE f b = E) :
    Calls Try.prog 9 #[vf, vb] w fun e w' => ∃ v', e = .returned (.tuple #[v', .int .i64 E]) ∧ Below w.heap.size w w' ∧
      (E = 0 → w'.ownsRow w.heap.size 3 1 v' (groundL f b).length ((groundL f b).map vint)) ∧ (E ≠ 0 → v' = .slice none 0 0) := by
  unfold groundL
  have hf0 := Lib.hid hf
  have hb0 := Lib.hid hb
  obtain ⟨A, c, rfl, hlc, hcm, _, hr⟩ := hf
  obtain ⟨A', c', rfl, hlc', hcm', _, hr'⟩ := hb
  clear hr hr'
  have hE' := Lib.hid hE
  clear hE
  go_enter Try.func9, Try.ntmps9
  go_wp2_with (first | (go_at_call 18; refine (pf_made2 19 20 underL liftL _ _ f b _ w.heap.size (hf0.out.below (alc1 _ _)) (hb0.out.below (alc1 _ _)) (by simp) (World.cell?_alloc_at _ _ _ _ rfl) (World.cell?_alloc_at _ _ _ _ rfl) (fun _ _ => by kernel_rfl) (fun _ _ => by kernel_rfl) (fun h1 h2 => ⟨under_ok h1 h2, by rw [underL_length]; exact h2⟩) (fun vf' vb' W h1 h2 h3 h4 => pf_under vf' vb' f b W h1 h2 h3 h4) (fun vf' vb' W h1 h2 h3 h4 => pf_lifted vf' vb' (underL f b) b W h1 h2 h3 h4) E hE'.out).mono ?_; rintro e w' ⟨v', rfl, h1, h2, h3⟩))
  go_ret2
  exact ⟨v', rfl, (alc1 _ _).trans (h1.mono (by simp)), fun h => own_base (h2 h) (by simp), h3⟩
theorem pf_ros_Under (vf vb : Value) (f b : List Int) (w : World) (hf : Ints w vf f) (hb : Ints w vb b) (E : Int) (hE : bothE f b = E) :
    Calls Try.prog 10 #[vf, vb] w fun e w' => ∃ v', e = .returned (.tuple #[v', .int .i64 E]) ∧ Below w.heap.size w w' ∧
      (E = 0 → w'.ownsRow w.heap.size 3 1 v' (underL f b).length ((underL f b).map vint)) ∧ (E ≠ 0 → v' = .slice none 0 0) := by
  have hf0 := Lib.hid hf
  have hb0 := Lib.hid hb
  obtain ⟨A, c, rfl, hlc, hcm, _, hr⟩ := hf
  obtain ⟨A', c', rfl, hlc', hcm', _, hr'⟩ := hb
  clear hr hr'
  have hE' := Lib.hid hE
  clear hE
  go_enter Try.func10, Try.ntmps10
  go_wp2_with (first | (go_at_call 18; refine (pf_made1 19 underL _ _ f b _ w.heap.size (hf0.out.below (alc1 _ _)) (hb0.out.below (alc1 _ _)) (by simp) (World.cell?_alloc_at _ _ _ _ rfl) (fun _ _ => by kernel_rfl) (underL_length f b) (fun vf' vb' W h1 h2 h3 h4 => pf_under vf' vb' f b W h1 h2 h3 h4) E hE'.out).mono ?_; rintro e w' ⟨v', rfl, h1, h2, h3⟩))
  go_ret2
  exact ⟨v', rfl, (alc1 _ _).trans (h1.mono (by simp)), fun h => own_base (h2 h) (by simp), h3⟩
end Go.Proofs.Ytaifechmeagkhaa
