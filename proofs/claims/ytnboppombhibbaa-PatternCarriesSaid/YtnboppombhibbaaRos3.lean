/- Contracts of package rosette: turned, matches, Period. -/
import Derived.Test.YtnboppombhibbaaRos2
namespace Go.Proofs.Ytnboppombhibbaa
open Go.RowKit
set_option linter.unusedVariables false
set_option linter.unusedSimpArgs false

def turnL (f : List Int) (s : Nat) : List Int := f.drop (f.length - s) ++ f.take (f.length - s)
theorem turnL_length (f : List Int) (s : Nat) : (turnL f s).length = f.length := by simp [turnL]
theorem one_two (w : World) (x y : Value) (e : TypeId) : Arr id (w.alloc (.cells #[x, y] e)).drew (.slice (some ⟨w.heap.size, 0, none⟩) 2 2) [x, y] :=
  ⟨some ⟨w.heap.size, 0, none⟩, 2, rfl, by simp, by simp [maxLen], fun h => by simp at h, fun _ => ⟨w.heap.size, 0, rfl, by simp [World.drew], fun j hj => by
    have h : (w.alloc (.cells #[x, y] e)).cell? ⟨w.heap.size, 0 + j, none⟩ = some (id [x, y][j]) := by
      rw [World.cell?_alloc_at _ _ _ _ rfl, Nat.zero_add]
      simp at hj
      rw [Array.getElem?_eq_getElem (by simpa using hj)]
      simp
    exact h⟩⟩
set_option maxHeartbeats 1000000 in
theorem pf_turned (v : Value) (f : List Int) (s : Nat) (w : World) (hv : Ints w v f) (hs : s ≤ f.length) (hl : f.length ≤ 1000) (hl0 : 0 < f.length) :
    Calls Try.prog 101 #[v, .int .i64 s] w fun e w' => ∃ v', e = .returned v' ∧ Below w.heap.size w w' ∧ w'.ownsRow w.heap.size 3 1 v' (turnL f s).length ((turnL f s).map vint) := by
  have hv0 := Lib.hid hv
  obtain ⟨A, c, rfl, hlc, hcm, _, hr⟩ := hv
  unfold maxLen at hcm
  clear hr
  obtain ⟨k, hk⟩ : ∃ k : Nat, (f.length : Int) - (s : Int) = (k : Int) := ⟨f.length - s, by omega⟩
  have hkl : k ≤ f.length := by omega
  have r1 := fun W => run_cut_l (elemInt : Elem1 Try.prog 22 3 (.int .i64 0) 8) A f.length c k hkl W
  have r2 := fun W => run_cut_h (elemInt : Elem1 Try.prog 22 3 (.int .i64 0) 8) A f.length c k (by omega) W
  have hks : f.length - s = k := by omega
  have hwr : IntKind.i64.wrap ((f.length : Int) - (s : Int)) = (k : Int) := by rw [hk]; exact IntWalk.i64_in _ (by omega)
  have hA1 := hv0.out.cut k f.length hkl (Nat.le_refl _)
  have hA2 := hv0.out.cut 0 k (Nat.zero_le _) hkl
  have e0 : cutA A c 0 = A := by
    unfold cutA
    split
    · rfl
    · cases A <;> simp [Addr.add]
  rw [e0, Nat.sub_zero, Nat.sub_zero, List.drop_zero] at hA2
  have e1 : (f.drop k).take (f.length - k) = f.drop k := List.take_of_length_le (by simp)
  rw [e1] at hA1
  generalize hX : cutA A c k = X at r1 hA1
  have hA1' := Lib.hid hA1
  have hA2' := Lib.hid hA2
  have hks' := Lib.hid hks
  have hsp : (turnL f s) = [f.drop k, f.take k].flatten := by simp [turnL, hks]
  have hsp' := Lib.hid hsp
  have hfl : [f.drop k, f.take k].flatten.length ≤ 1000000 := by
    rw [← hsp, turnL_length]; omega
  rw [hsp]
  have hfl' := Lib.hid hfl
  have hcc : ∀ (v2 : Value) (W : World), Arr id W v2 [.slice X (f.length - k) (c - k), .slice A k c] → Below w.heap.size w W → Calls Try.prog 108 #[v2] W fun e w' => ∃ v', e = .returned v' ∧ Below W.heap.size W w' ∧ w'.ownsRow W.heap.size 3 1 v' [f.drop k, f.take k].flatten.length ([f.drop k, f.take k].flatten.map vint) := by
    intro v2 W h1 hb
    refine pf_Concat v2 _ [f.drop k, f.take k] W h1 rfl (fun j h h' => ?_) hfl (by simp)
    match j, h, h' with
    | 0, _, _ => exact hA1.below hb
    | 1, _, _ => exact hA2.below hb
  have hcc' := Lib.hid hcc
  clear hks hA1 hA2 e0 e1 hX hsp hfl hcc
  have hwk : IntKind.i64.wrap (k : Int) = (k : Int) := IntWalk.i64_in _ (by omega)
  have i1 : (0 : Int) ≤ (k : Int) := by omega
  have i2 : (k : Int) ≤ (f.length : Int) := by omega
  have i3 : (k : Int) ≤ (c : Int) := by omega
  go_enter Try.func101, Try.ntmps101
  go_wp2
  go_region_held3 (fun _ => True) (go_keep) (first | (go_at_call 108; refine (hcc'.out _ _ (one_two _ _ _ _) (by first | exact (alc1 _ _).drew)).mono ?_; rintro e w' ⟨v', rfl, h1, h2⟩))
  go_wp2
  go_ret
  exact ⟨v', rfl, (alc1 _ _).drew.trans (h1.mono (by simp)), own_base h2 (by simp)⟩
def matchesN (f g : List Int) (k : Nat) : List Nat := (List.range k).filter fun s => turnL f s == g
def matchesI (f g : List Int) (k : Nat) : List Int := (matchesN f g k).map fun (s : Nat) => (s : Int)
theorem matchesI_hit (f g : List Int) (k : Nat) (h : (turnL f k == g) = true) : matchesI f g (k + 1) = matchesI f g k ++ [(k : Int)] := by
  simp [matchesI, matchesN, List.range_succ, List.filter_append, h]
theorem matchesI_miss (f g : List Int) (k : Nat) (h : (turnL f k == g) = false) : matchesI f g (k + 1) = matchesI f g k := by
  simp [matchesI, matchesN, List.range_succ, List.filter_append, h]
theorem matchesI_le (f g : List Int) (k : Nat) : (matchesI f g k).length ≤ k := by
  have := List.length_filter_le (fun s => turnL f s == g) (List.range k)
  simpa [matchesI, matchesN] using this
set_option maxHeartbeats 1000000 in
theorem pf_matches (v v' : Value) (f g : List Int) (w : World) (hv : Ints w v f) (hv' : Ints w v' g) (hl : f.length ≤ 1000) :
    Calls Try.prog 80 #[v, v'] w fun e w' => ∃ r, e = .returned r ∧ Below w.heap.size w w' ∧ w'.ownsRow w.heap.size 3 1 r (matchesI f g f.length).length ((matchesI f g f.length).map vint) := by
  have hv0 := Lib.hid hv
  have hv1 := Lib.hid hv'
  obtain ⟨A, c, rfl, hlc, hcm, _, hr⟩ := hv
  clear hv' hr
  go_enter Try.func80, Try.ntmps80
  go_wp2
  go_loopw [9, 5] (fun i s wr => ∃ k : Nat, k ≤ f.length ∧ i = .int .i64 k ∧ Below w.heap.size w wr ∧ Hid (wr.ownsRow w.heap.size 3 1 s (matchesI f g k).length ((matchesI f g k).map vint))) (fun i _ _ => f.length - (intOf i).toNat)
  case atStart => exact ⟨0, by omega, rfl, Below.refl _ _, World.ownsRow_nil _ _ _ _⟩
  case round =>
    obtain ⟨k, hk, rfl, hbw, hown⟩ := hrel
    by_cases hlt : k < f.length
    · have hvr := Lib.hid (hv0.out.below hbw)
      obtain ⟨B, hB⟩ : ∃ B, (turnL f k == g) = B := ⟨_, rfl⟩
      have hB' := Lib.hid hB
      have hle := matchesI_le f g k
      have hbz := hbw.size
      clear hB
      go_wp2_with fail
      refine (pf_turned _ f k _ hvr.out (by omega) hl (by omega)).mono ?_
      rintro e w1 ⟨v1, rfl, hb1, ho1⟩
      have hI1 := Lib.hid (Arr.of_own ho1)
      have hB1 : Below w.heap.size w w1 := hbw.trans (hb1.mono hbz)
      have hown1 := Lib.hid (own_below hown.out hb1)
      clear ho1
      go_wp2_with fail
      refine (pf_Equal v1 v' (turnL f k) g w1 hI1.out (hv1.out.below hB1)).mono ?_
      rintro e w2 ⟨rfl, nd, rfl⟩
      rw [hB'.out]
      have hB2 := below_drewN' hB1 nd
      have hown2 : Hid ((w1.drewN nd).ownsRow _ _ _ _ _ _) := hown1
      have hB2z := hB2.size
      generalize w1.drewN nd = w2 at hB2 hown2 hB2z ⊢
      clear hown hown1 hI1 hB1 hb1 hvr
      cases B with
      | true =>
        have hs := Lib.hid (matchesI_hit f g k hB'.out)
        go_wp2_with (first | (at_builtin; go_must (refine wpList_appI rfl _ _ 22 rfl w.heap.size 3 elemInt _ (matchesI f g k) rfl (hown2.out.alloc _) _ [(k : Int)] rfl (one_newI _ _ _) (by simp; omega) (by simp; omega) ?_)))
        intro v3 w3 h1 h2 _ _
        have h1' := Lib.hid h1
        clear h1
        have hB3 : Below w.heap.size w w3 := (hB2.alloc hB2z _).trans h2
        clear h2
        go_wp2
        go_roundw
        case rel => exact ⟨k + 1, by omega, by go_num, hB3, by have h := h1'.out; rw [hs.out, List.length_append, List.map_append]; exact h⟩
        case measure => simp [intOf]; omega
      | false =>
        have hs := Lib.hid (matchesI_miss f g k hB'.out)
        go_wp2
        go_roundw
        case rel => exact ⟨k + 1, by omega, by go_num, hB2, by rw [hs.out]; exact hown2⟩
        case measure => simp [intOf]; omega
    · obtain rfl : k = f.length := by omega
      go_wp2
      go_ret
      exact ⟨_, rfl, hbw, hown.out⟩
theorem turnL_zero (f : List Int) : turnL f 0 = f := by simp [turnL]
theorem matches_pos (f : List Int) (h : 0 < f.length) : 0 < (matchesI f f f.length).length := by
  have : 0 ∈ matchesN f f f.length := by simp [matchesN, turnL_zero, h]
  have h2 := List.length_pos_of_mem this
  simpa [matchesI] using h2
def periodL (f : List Int) : Nat := f.length / (matchesI f f f.length).length
theorem pf_ros_Period (v : Value) (f : List Int) (w : World) (hv : Ints w v f) (hok : rosOk f = true) :
    Calls Try.prog 42 #[v] w fun e w' => e = .returned (.tuple #[.int .i64 (periodL f), .int .i64 0]) ∧ Below w.heap.size w w' := by
  have hv0 := Lib.hid hv
  obtain ⟨A, c, rfl, hlc, hcm, _, hr⟩ := hv
  clear hr
  have hl : 3 ≤ f.length ∧ f.length ≤ 96 := by
    unfold rosOk at hok
    simp only [Bool.and_eq_true, decide_eq_true_eq] at hok
    exact ⟨hok.1, hok.2.1⟩
  have hm := matches_pos f (by omega)
  have hm2 := matchesI_le f f f.length
  have hper : ((f.length : Int) / ((matchesI f f f.length).length : Int)) = ((periodL f : Nat) : Int) := by unfold periodL; simp
  have hper2 : periodL f ≤ f.length := Nat.div_le_self f.length (matchesI f f f.length).length
  unfold maxLen at hcm
  go_enter Try.func42, Try.ntmps42
  go_wp2_with (first | (go_at_call 60; refine (pf_ros_Check _ f _ hv0.out true hok).mono ?_; rintro e w' ⟨rfl, rfl⟩) | (go_at_call 80; refine (pf_matches _ _ f f _ hv0.out hv0.out (by omega)).mono ?_; rintro e w1 ⟨r, rfl, hb1, ho1⟩; obtain ⟨rA, rc, rfl, _, hrm, _, _⟩ := Arr.of_own ho1; clear ho1; unfold maxLen at hrm))
  go_ret2
  exact ⟨rfl, hb1⟩
end Go.Proofs.Ytnboppombhibbaa
