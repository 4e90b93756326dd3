/- Contracts of package rosette: lifted, under, both, made, Lift, Under. -/
import Derived.Test.YtnboppombhibbaaPicked
namespace Go.Proofs.Ytnboppombhibbaa
open Go.RowKit
set_option linter.unusedVariables false
set_option linter.unusedSimpArgs false

def liftM (h d : Int) : Int := h - d
def liftK (x y : Int) : Int := if x < y then y else x
def underM (h d : Int) : Int := h + d
def underK (x y : Int) : Int := if y < x then y else x
def liftL (f b : List Int) : List Int := pickedL f b 1 liftM liftK f.length
def underL (f b : List Int) : List Int := pickedL f b (-1) underM underK f.length
theorem liftL_length (f b : List Int) : (liftL f b).length = f.length := pickedL_length _ _ _ _ _ _
theorem underL_length (f b : List Int) : (underL f b).length = f.length := pickedL_length _ _ _ _ _ _
def bothE (f b : List Int) : Int := if rosOk f then (if rubOk b f.length then 0 else 31) else 30

theorem pf_both (vf vb : Value) (f b : List Int) (w : World) (hf : Ints w vf f) (hb : Ints w vb b) :
    Calls Try.prog 102 #[vf, vb] w fun e w' => e = .returned (.int .i64 (bothE f b)) ∧ w = w' := by
  have hf0 := Lib.hid hf
  have hb0 := Lib.hid hb
  obtain ⟨A, c, rfl, hlc, hcm, _, hr⟩ := hf
  unfold maxLen at hcm
  clear hr hb
  unfold bothE
  obtain ⟨B, hB⟩ : ∃ B, rosOk f = B := ⟨_, rfl⟩
  obtain ⟨C, hC⟩ : ∃ C, rubOk b f.length = C := ⟨_, rfl⟩
  rw [hB, hC]
  have hB' := Lib.hid hB
  have hC' := Lib.hid hC
  clear hB hC
  cases B with
  | false =>
    go_enter Try.func102, Try.ntmps102
    go_wp2_with (first | (go_at_call 60; refine (pf_ros_Check _ f _ hf0.out false hB'.out).mono ?_; rintro e w' ⟨rfl, rfl⟩))
    go_ret
    exact ⟨rfl, rfl⟩
  | true =>
    cases C
    all_goals
      go_enter Try.func102, Try.ntmps102
      go_wp2_with (first | (go_at_call 60; refine (pf_ros_Check _ f _ hf0.out true hB'.out).mono ?_; rintro e w' ⟨rfl, rfl⟩) | (go_at_call 61; refine (pf_ros_CheckRubber _ b _ _ hb0.out _ hC'.out).mono ?_; rintro e w' ⟨rfl, rfl⟩))
      go_ret
      exact ⟨rfl, rfl⟩
theorem pf_lifted1 (h d : Int) (W : World) (hh : 0 ≤ h ∧ h ≤ 10000) (hd : 0 ≤ d ∧ d ≤ 10000) : Calls Try.prog 104 #[.int .i64 h, .int .i64 d] W fun e w' => e = .returned (.int .i64 (liftM h d)) ∧ W = w' := by
  obtain ⟨h1, h2⟩ := hh
  obtain ⟨h3, h4⟩ := hd
  go_enter Try.func104, Try.ntmps104
  go_wp2
  go_ret
  exact ⟨rfl, rfl⟩
theorem pf_lifted2 (x y : Int) (W : World) : Calls Try.prog 105 #[.int .i64 x, .int .i64 y] W fun e w' => e = .returned (.int .i64 (liftK x y)) ∧ W = w' := by
  unfold liftK
  by_cases h : x < y
  · rw [if_pos h]
    go_enter Try.func105, Try.ntmps105
    go_wp2
    go_ret
    exact ⟨rfl, rfl⟩
  · rw [if_neg h]
    have h' : y ≤ x := by omega
    go_enter Try.func105, Try.ntmps105
    go_wp2
    go_ret
    exact ⟨rfl, rfl⟩
theorem pf_lifted (vf vb : Value) (f b : List Int) (w : World) (hf : Ints w vf f) (hb : Ints w vb b) (hfo : rosOk f = true) (hbo : rubOk b f.length = true) :
    Calls Try.prog 83 #[vf, vb] w fun e w' => ∃ v', e = .returned v' ∧ Below w.heap.size w w' ∧ w'.ownsRow w.heap.size 3 1 v' (liftL f b).length ((liftL f b).map vint) := by
  have hf0 := Lib.hid hf
  have hb0 := Lib.hid hb
  obtain ⟨A, c, rfl, hlc, hcm, _, hr⟩ := hf
  obtain ⟨A', c', rfl, hlc', hcm', _, hr'⟩ := hb
  clear hr hr'
  go_enter Try.func83, Try.ntmps83
  go_wp2_with (first | (go_at_call 103; refine (pf_picked f b _ _ _ hf0.out hb0.out 1 104 105 liftM liftK hfo hbo (.inl rfl) (fun _ _ => by kernel_rfl) (fun _ _ => by kernel_rfl) (fun h d W h1 h2 => pf_lifted1 h d W h1 h2) (fun h d h1 h2 => by unfold Near liftM; omega) (fun x y W _ _ => pf_lifted2 x y W) (fun x y h1 h2 => by unfold Near liftK at *; split <;> omega)).mono ?_; rintro e w' ⟨v', rfl, h1, h2⟩))
  go_ret
  exact ⟨v', rfl, h1, h2⟩
/-- made, with one function. -/
theorem pf_made1 (g : Nat) (G : List Int → List Int → List Int) (vf vb : Value) (f b : List Int) (w : World) (ba : Nat) (hf : Ints w vf f) (hb : Ints w vb b) (hba : ba < w.heap.size)
    (hc : w.cell? ⟨ba, 0, none⟩ = some (.func (.func g) #[] #[])) (hg : Plain Try.prog g) (hgl : (G f b).length = f.length)
    (hG : ∀ (vf' vb' : Value) (W : World), Ints W vf' f → Ints W vb' b → rosOk f = true → rubOk b f.length = true → Calls Try.prog g #[vf', vb'] W fun e w' => ∃ v', e = .returned v' ∧ Below W.heap.size W w' ∧ w'.ownsRow W.heap.size 3 1 v' (G f b).length ((G f b).map vint))
    (E : Int) (hE : bothE f b = E) :
    Calls Try.prog 82 #[vf, vb, .slice (some ⟨ba, 0, none⟩) 1 1] w fun e w' => ∃ v', e = .returned (.tuple #[v', .int .i64 E]) ∧ Below w.heap.size w w' ∧
      (E = 0 → w'.ownsRow w.heap.size 3 1 v' (G f b).length ((G f b).map vint)) ∧ (E ≠ 0 → v' = .slice none 0 0) := by
  have hf0 := Lib.hid hf
  have hb0 := Lib.hid hb
  obtain ⟨A, c, rfl, hlc, hcm, _, hr⟩ := hf
  obtain ⟨A', c', rfl, hlc', hcm', _, hr'⟩ := hb
  have hg' := hg
  unfold Plain at hg'
  have hE' := Lib.hid hE
  clear hr hr' hE
  by_cases h0 : E = 0
  · have hok : rosOk f = true ∧ rubOk b f.length = true := by
      have := hE'.out
      unfold bothE at this
      cases h1 : rosOk f <;> cases h2 : rubOk b f.length <;> simp_all
    subst h0
    go_enter Try.func82, Try.ntmps82
    go_wp2_with (first | (go_at_call 102; refine (pf_both _ _ f b _ hf0.out hb0.out).mono ?_; rintro e w' ⟨rfl, rfl⟩; rw [hE'.out]))
    go_loopw [19, 0] (fun i s wr => ∃ k : Nat, k ≤ 1 ∧ i = .int .i64 k ∧ Below w.heap.size w wr ∧ Hid ((k = 0 → s = .slice A f.length c ∧ wr = w) ∧ (k = 1 → wr.ownsRow w.heap.size 3 1 s (G f b).length ((G f b).map vint)))) (fun i _ _ => 1 - (intOf i).toNat)
    case atStart => exact ⟨0, by omega, rfl, Below.refl _ _, ⟨fun _ => ⟨rfl, rfl⟩, fun h => absurd h (by omega)⟩⟩
    case round =>
      obtain ⟨k, hk, rfl, hbw, hst⟩ := hrel
      obtain rfl | rfl : k = 0 ∨ k = 1 := by omega
      · obtain ⟨rfl, rfl⟩ := hst.out.1 rfl
        clear hst
        go_wp2_with (first | (refine (hG _ _ _ hf0.out hb0.out hok.1 hok.2).mono ?_; rintro e w' ⟨v', rfl, h1, h2⟩; have h2' := Lib.hid h2; clear h2))
        go_roundw
        case rel => exact ⟨1, by omega, by go_num, h1, ⟨fun h => absurd h (by omega), fun _ => h2'.out⟩⟩
        case measure => simp [intOf]
      · have hst' := Lib.hid (hst.out.2 rfl)
        clear hst
        go_wp2
        go_ret2
        exact ⟨_, rfl, hbw, fun _ => hst'.out, fun h => absurd rfl h⟩
  · have hne : (E != 0) = true := by simpa using h0
    have h0' := Lib.hid h0
    clear h0
    go_enter Try.func82, Try.ntmps82
    go_wp2_with (first | (go_at_call 102; refine (pf_both _ _ f b _ hf0.out hb0.out).mono ?_; rintro e w' ⟨rfl, rfl⟩; rw [hE'.out]))
    go_ret2
    exact ⟨_, rfl, Below.refl _ _, fun h => absurd h h0'.out, fun _ => rfl⟩
theorem pf_ros_Lift (vf vb : Value) (f b : List Int) (w : World) (hf : Ints w vf f) (hb : Ints w vb b) (E : Int) (hE : bothE f b = E) :
    Calls Try.prog 47 #[vf, vb] w fun e w' => ∃ v', e = .returned (.tuple #[v', .int .i64 E]) ∧ Below w.heap.size w w' ∧
      (E = 0 → w'.ownsRow w.heap.size 3 1 v' (liftL f b).length ((liftL f b).map vint)) ∧ (E ≠ 0 → v' = .slice none 0 0) := by
  have hf0 := Lib.hid hf
  have hb0 := Lib.hid hb
  obtain ⟨A, c, rfl, hlc, hcm, _, hr⟩ := hf
  obtain ⟨A', c', rfl, hlc', hcm', _, hr'⟩ := hb
  clear hr hr'
  have hE' := Lib.hid hE
  clear hE
  go_enter Try.func47, Try.ntmps47
  go_wp2_with (first | (go_at_call 82; refine (pf_made1 83 liftL _ _ f b _ w.heap.size (hf0.out.below (alc1 _ _)) (hb0.out.below (alc1 _ _)) (by simp) (World.cell?_alloc_at _ _ _ _ rfl) (fun _ _ => by kernel_rfl) (liftL_length f b) (fun vf' vb' W h1 h2 h3 h4 => pf_lifted vf' vb' f b W h1 h2 h3 h4) E hE'.out).mono ?_; rintro e w' ⟨v', rfl, h1, h2, h3⟩))
  go_ret2
  exact ⟨v', rfl, (alc1 _ _).trans (h1.mono (by simp)), fun h => own_base (h2 h) (by simp), h3⟩
end Go.Proofs.Ytnboppombhibbaa
