/- Contracts of package rosette: turned, matches, Period. Plain laws of lifts: a lift's height is the greatest of heights less drops; a lift is a rosette again. Plain laws of turning: the period is the least turn that changes nothing. -/
import Derived.Test.YtnboppombhibbaaRos2
namespace Go.Proofs.Ytnboppombhibbaa
open Go.RowKit
set_option linter.unusedVariables false
set_option linter.unusedSimpArgs false

def turnL (f : List Int) (s : Nat) : List Int := f.drop (f.length - s) ++ f.take (f.length - s)
theorem turnL_length (f : List Int) (s : Nat) : (turnL f s).length = f.length := by simp [turnL]
theorem one_two (w : World) (x y : Value) (e : TypeId) : Arr id (w.alloc (.cells #[x, y] e)).drew (.slice (some ⟨w.heap.size, 0, none⟩) 2 2) [x, y] :=
  ⟨some ⟨w.heap.size, 0, none⟩, 2, rfl, by simp, by simp [maxLen], fun h => by simp at h, fun _ => ⟨w.heap.size, 0, rfl, by simp [World.drew], fun j hj => by
    have h : (w.alloc (.cells #[x, y] e)).cell? ⟨w.heap.size, 0 + j, none⟩ = some (id [x, y][j]) := by
      rw [World.cell?_alloc_at _ _ _ _ rfl, Nat.zero_add]
      simp at hj
      rw [Array.getElem?_eq_getElem (by simpa using hj)]
      simp
    exact h⟩⟩
set_option maxHeartbeats 1000000 in
theorem pf_turned (v : Value) (f : List Int) (s : Nat) (w : World) (hv : Ints w v f) (hs : s ≤ f.length) (hl : f.length ≤ 1000) (hl0 : 0 < f.length) :
    Calls Try.prog 101 #[v, .int .i64 s] w fun e w' => ∃ v', e = .returned v' ∧ Below w.heap.size w w' ∧ w'.ownsRow w.heap.size 3 1 v' (turnL f s).length ((turnL f s).map vint) := by
  have hv0 := Lib.hid hv
  obtain ⟨A, c, rfl, hlc, hcm, _, hr⟩ := hv
  unfold maxLen at hcm
  clear hr
  obtain ⟨k, hk⟩ : ∃ k : Nat, (f.length : Int) - (s : Int) = (k : Int) := ⟨f.length - s, by omega⟩
  have hkl : k ≤ f.length := by omega
  have r1 := fun W => run_cut_l (elemInt : Elem1 Try.prog 22 3 (.int .i64 0) 8) A f.length c k hkl W
  have r2 := fun W => run_cut_h (elemInt : Elem1 Try.prog 22 3 (.int .i64 0) 8) A f.length c k (by omega) W
  have hks : f.length - s = k := by omega
  have hwr : IntKind.i64.wrap ((f.length : Int) - (s : Int)) = (k : Int) := by rw [hk]; exact IntWalk.i64_in _ (by omega)
  have hA1 := hv0.out.cut k f.length hkl (Nat.le_refl _)
  have hA2 := hv0.out.cut 0 k (Nat.zero_le _) hkl
  have e0 : cutA A c 0 = A := by
    unfold cutA
    split
    · rfl
    · cases A <;> simp [Addr.add]
  rw [e0, Nat.sub_zero, Nat.sub_zero, List.drop_zero] at hA2
  have e1 : (f.drop k).take (f.length - k) = f.drop k := List.take_of_length_le (by simp)
  rw [e1] at hA1
  generalize hX : cutA A c k = X at r1 hA1
  have hA1' := Lib.hid hA1
  have hA2' := Lib.hid hA2
  have hks' := Lib.hid hks
  have hsp : (turnL f s) = [f.drop k, f.take k].flatten := by simp [turnL, hks]
  have hsp' := Lib.hid hsp
  have hfl : [f.drop k, f.take k].flatten.length ≤ 1000000 := by
    rw [← hsp, turnL_length]; omega
  rw [hsp]
  have hfl' := Lib.hid hfl
  have hcc : ∀ (v2 : Value) (W : World), Arr id W v2 [.slice X (f.length - k) (c - k), .slice A k c] → Below w.heap.size w W → Calls Try.prog 108 #[v2] W fun e w' => ∃ v', e = .returned v' ∧ Below W.heap.size W w' ∧ w'.ownsRow W.heap.size 3 1 v' [f.drop k, f.take k].flatten.length ([f.drop k, f.take k].flatten.map vint) := by
    intro v2 W h1 hb
    refine pf_Concat v2 _ [f.drop k, f.take k] W h1 rfl (fun j h h' => ?_) hfl (by simp)
    match j, h, h' with
    | 0, _, _ => exact hA1.below hb
    | 1, _, _ => exact hA2.below hb
  have hcc' := Lib.hid hcc
  clear hks hA1 hA2 e0 e1 hX hsp hfl hcc
  have hwk : IntKind.i64.wrap (k : Int) = (k : Int) := IntWalk.i64_in _ (by omega)
  have i1 : (0 : Int) ≤ (k : Int) := by omega
  have i2 : (k : Int) ≤ (f.length : Int) := by omega
  have i3 : (k : Int) ≤ (c : Int) := by omega
  go_enter Try.func101, Try.ntmps101
  go_wp2
  go_region_held3 (fun _ => True) (go_keep) (first | (go_at_call 108; refine (hcc'.out _ _ (one_two _ _ _ _) (by first | exact (alc1 _ _).drew)).mono ?_; rintro e w' ⟨v', rfl, h1, h2⟩))
  go_wp2
  go_ret
  exact ⟨v', rfl, (alc1 _ _).drew.trans (h1.mono (by simp)), own_base h2 (by simp)⟩
def matchesN (f g : List Int) (k : Nat) : List Nat := (List.range k).filter fun s => turnL f s == g
def matchesI (f g : List Int) (k : Nat) : List Int := (matchesN f g k).map fun (s : Nat) => (s : Int)
theorem matchesI_hit (f g : List Int) (k : Nat) (h : (turnL f k == g) = true) : matchesI f g (k + 1) = matchesI f g k ++ [(k : Int)] := by
  simp [matchesI, matchesN, List.range_succ, List.filter_append, h]
theorem matchesI_miss (f g : List Int) (k : Nat) (h : (turnL f k == g) = false) : matchesI f g (k + 1) = matchesI f g k := by
  simp [matchesI, matchesN, List.range_succ, List.filter_append, h]
theorem matchesI_le (f g : List Int) (k : Nat) : (matchesI f g k).length ≤ k := by
  have := List.length_filter_le (fun s => turnL f s == g) (List.range k)
  simpa [matchesI, matchesN] using this
set_option maxHeartbeats 1000000 in
theorem pf_matches (v v' : Value) (f g : List Int) (w : World) (hv : Ints w v f) (hv' : Ints w v' g) (hl : f.length ≤ 1000) :
    Calls Try.prog 80 #[v, v'] w fun e w' => ∃ r, e = .returned r ∧ Below w.heap.size w w' ∧ w'.ownsRow w.heap.size 3 1 r (matchesI f g f.length).length ((matchesI f g f.length).map vint) := by
  have hv0 := Lib.hid hv
  have hv1 := Lib.hid hv'
  obtain ⟨A, c, rfl, hlc, hcm, _, hr⟩ := hv
  clear hv' hr
  go_enter Try.func80, Try.ntmps80
  go_wp2
  go_loopw [9, 5] (fun i s wr => ∃ k : Nat, k ≤ f.length ∧ i = .int .i64 k ∧ Below w.heap.size w wr ∧ Hid (wr.ownsRow w.heap.size 3 1 s (matchesI f g k).length ((matchesI f g k).map vint))) (fun i _ _ => f.length - (intOf i).toNat)
  case atStart => exact ⟨0, by omega, rfl, Below.refl _ _, World.ownsRow_nil _ _ _ _⟩
  case round =>
    obtain ⟨k, hk, rfl, hbw, hown⟩ := hrel
    by_cases hlt : k < f.length
    · have hvr := Lib.hid (hv0.out.below hbw)
      obtain ⟨B, hB⟩ : ∃ B, (turnL f k == g) = B := ⟨_, rfl⟩
      have hB' := Lib.hid hB
      have hle := matchesI_le f g k
      have hbz := hbw.size
      clear hB
      go_wp2_with fail
      refine (pf_turned _ f k _ hvr.out (by omega) hl (by omega)).mono ?_
      rintro e w1 ⟨v1, rfl, hb1, ho1⟩
      have hI1 := Lib.hid (Arr.of_own ho1)
      have hB1 : Below w.heap.size w w1 := hbw.trans (hb1.mono hbz)
      have hown1 := Lib.hid (own_below hown.out hb1)
      clear ho1
      go_wp2_with fail
      refine (pf_Equal v1 v' (turnL f k) g w1 hI1.out (hv1.out.below hB1)).mono ?_
      rintro e w2 ⟨rfl, nd, rfl⟩
      rw [hB'.out]
      have hB2 := below_drewN' hB1 nd
      have hown2 : Hid ((w1.drewN nd).ownsRow _ _ _ _ _ _) := hown1
      have hB2z := hB2.size
      generalize w1.drewN nd = w2 at hB2 hown2 hB2z ⊢
      clear hown hown1 hI1 hB1 hb1 hvr
      cases B with
      | true =>
        have hs := Lib.hid (matchesI_hit f g k hB'.out)
        go_wp2_with (first | (at_builtin; go_must (refine wpList_appI rfl _ _ 22 rfl w.heap.size 3 elemInt _ (matchesI f g k) rfl (hown2.out.alloc _) _ [(k : Int)] rfl (one_newI _ _ _) (by simp; omega) (by simp; omega) ?_)))
        intro v3 w3 h1 h2 _ _
        have h1' := Lib.hid h1
        clear h1
        have hB3 : Below w.heap.size w w3 := (hB2.alloc hB2z _).trans h2
        clear h2
        go_wp2
        go_roundw
        case rel => exact ⟨k + 1, by omega, by go_num, hB3, by have h := h1'.out; rw [hs.out, List.length_append, List.map_append]; exact h⟩
        case measure => simp [intOf]; omega
      | false =>
        have hs := Lib.hid (matchesI_miss f g k hB'.out)
        go_wp2
        go_roundw
        case rel => exact ⟨k + 1, by omega, by go_num, hB2, by rw [hs.out]; exact hown2⟩
        case measure => simp [intOf]; omega
    · obtain rfl : k = f.length := by omega
      go_wp2
      go_ret
      exact ⟨_, rfl, hbw, hown.out⟩
theorem turnL_zero (f : List Int) : turnL f 0 = f := by simp [turnL]
theorem matches_pos (f : List Int) (h : 0 < f.length) : 0 < (matchesI f f f.length).length := by
  have : 0 ∈ matchesN f f f.length := by simp [matchesN, turnL_zero, h]
  have h2 := List.length_pos_of_mem this
  simpa [matchesI] using h2
def periodL (f : List Int) : Nat := f.length / (matchesI f f f.length).length
theorem pf_ros_Period (v : Value) (f : List Int) (w : World) (hv : Ints w v f) (hok : rosOk f = true) :
    Calls Try.prog 42 #[v] w fun e w' => e = .returned (.tuple #[.int .i64 (periodL f), .int .i64 0]) ∧ Below w.heap.size w w' := by
  have hv0 := Lib.hid hv
  obtain ⟨A, c, rfl, hlc, hcm, _, hr⟩ := hv
  clear hr
  have hl : 3 ≤ f.length ∧ f.length ≤ 96 := by
    unfold rosOk at hok
    simp only [Bool.and_eq_true, decide_eq_true_eq] at hok
    exact ⟨hok.1, hok.2.1⟩
  have hm := matches_pos f (by omega)
  have hm2 := matchesI_le f f f.length
  have hper : ((f.length : Int) / ((matchesI f f f.length).length : Int)) = ((periodL f : Nat) : Int) := by unfold periodL; simp
  have hper2 : periodL f ≤ f.length := Nat.div_le_self f.length (matchesI f f f.length).length
  unfold maxLen at hcm
  go_enter Try.func42, Try.ntmps42
  go_wp2_with (first | (go_at_call 60; refine (pf_ros_Check _ f _ hv0.out true hok).mono ?_; rintro e w' ⟨rfl, rfl⟩) | (go_at_call 80; refine (pf_matches _ _ f f _ hv0.out hv0.out (by omega)).mono ?_; rintro e w1 ⟨r, rfl, hb1, ho1⟩; obtain ⟨rA, rc, rfl, _, hrm, _, _⟩ := Arr.of_own ho1; clear ho1; unfold maxLen at hrm))
  go_ret2
  exact ⟨rfl, hb1⟩
end Go.Proofs.Ytnboppombhibbaa
namespace Go.Proofs.Ytnboppombhibbaa
set_option linter.unusedVariables false
def pickN (N : Nat) (X : Nat → Int) (K : Int → Int → Int) (k : Nat) : Int := (List.range k).foldl (pickStep N X K) 0
theorem pickN_succ (N : Nat) (X : Nat → Int) (K : Int → Int → Int) (k : Nat) : pickN N X K (k + 1) = pickStep N X K (pickN N X K k) k := by
  unfold pickN; rw [List.range_succ, List.foldl_append]; rfl
theorem finRange_val (N : Nat) : (List.finRange N).map (·.1) = List.range N := by
  apply List.ext_getElem
  · simp
  · intro i h1 h2; simp
theorem pickedP_eq (f b : List Int) (dir : Int) (M K : Int → Int → Int) (p : Nat) : pickedP f b dir M K p = pickN b.length (pickX f b dir M p) K b.length := by
  unfold pickedP pickSt pickN
  rw [finRange_val]
theorem pickN_one (N : Nat) (X : Nat → Int) (K : Int → Int → Int) : pickN N X K 1 = X 0 := by
  rw [pickN_succ]; simp [pickStep]
theorem pickN_step (N : Nat) (X : Nat → Int) (K : Int → Int → Int) (k : Nat) (h : 0 < k) : pickN N X K (k + 1) = K (pickN N X K k) (X k) := by
  rw [pickN_succ]; unfold pickStep
  rw [if_neg (by omega)]
theorem liftK_max (x y : Int) : liftK x y = max x y := by unfold liftK; split <;> omega
theorem underK_min (x y : Int) : underK x y = min x y := by unfold underK; split <;> omega
theorem pickN_ge (N : Nat) (X : Nat → Int) : ∀ k j, j < k → X j ≤ pickN N X liftK k := by
  intro k
  induction k with
  | zero => intro j h; omega
  | succ k ih =>
    intro j h
    rcases Nat.eq_zero_or_pos k with h0 | h0
    · subst h0
      obtain rfl : j = 0 := by omega
      rw [pickN_one]; omega
    · rw [pickN_step _ _ _ _ h0, liftK_max]
      by_cases hj : j = k
      · subst hj; omega
      · have := ih j (by omega); omega
theorem pickN_mem (N : Nat) (X : Nat → Int) : ∀ k, 0 < k → ∃ j, j < k ∧ pickN N X liftK k = X j := by
  intro k
  induction k with
  | zero => intro h; omega
  | succ k ih =>
    intro _
    rcases Nat.eq_zero_or_pos k with h0 | h0
    · subst h0; exact ⟨0, by omega, pickN_one _ _ _⟩
    · rw [pickN_step _ _ _ _ h0, liftK_max]
      obtain ⟨j, hj, he⟩ := ih h0
      by_cases h : pickN N X liftK k ≤ X k
      · exact ⟨k, by omega, by omega⟩
      · exact ⟨j, by omega, by omega⟩
theorem liftL_getElem (f b : List Int) (p : Nat) (h : p < f.length) : (liftL f b)[p]'(by rw [liftL_length]; exact h) = pickN b.length (pickX f b 1 liftM p) liftK b.length := by
  simp [liftL, pickedL, pickedP_eq]
theorem rosOk_iff {f : List Int} : rosOk f = true ↔ 3 ≤ f.length ∧ f.length ≤ 96 ∧ ∀ i (h : i < f.length), 0 ≤ f[i] ∧ f[i] ≤ 10000 := by
  unfold rosOk
  simp only [Bool.and_eq_true, decide_eq_true_eq, List.all_eq_true]
  constructor
  · rintro ⟨h1, h2, h3⟩; exact ⟨h1, h2, fun i h => within_iff.1 (h3 _ (List.getElem_mem h))⟩
  · rintro ⟨h1, h2, h3⟩
    refine ⟨h1, h2, fun x hx => ?_⟩
    obtain ⟨i, hi, rfl⟩ := List.mem_iff_getElem.1 hx
    exact within_iff.2 (h3 i hi)
theorem rubOk_iff {b : List Int} {n : Int} : rubOk b n = true ↔ b.length % 2 = 1 ∧ (b.length : Int) ≤ n ∧ b.length ≤ 31 ∧ (∀ i (h : i < b.length), 0 ≤ b[i] ∧ b[i] ≤ 10000) ∧ b.getD (b.length / 2) 0 ≤ 0 := by
  unfold rubOk
  simp only [Bool.and_eq_true, decide_eq_true_eq, List.all_eq_true]
  constructor
  · rintro ⟨h1, h2, h3, h4, h5⟩; exact ⟨h1, h2, h3, fun i h => within_iff.1 (h4 _ (List.getElem_mem h)), h5⟩
  · rintro ⟨h1, h2, h3, h4, h5⟩
    refine ⟨h1, h2, h3, fun x hx => ?_, h5⟩
    obtain ⟨i, hi, rfl⟩ := List.mem_iff_getElem.1 hx
    exact within_iff.2 (h4 i hi)
theorem rub_mid {b : List Int} {n : Int} (h : rubOk b n = true) : b.getD (b.length / 2) 0 = 0 := by
  obtain ⟨h1, h2, h3, h4, h5⟩ := rubOk_iff.1 h
  have hk : b.length / 2 < b.length := by omega
  have := h4 _ hk
  simp [hk] at h5 ⊢
  omega
/-- The height of f at a step counted around. -/
def atR (f : List Int) (i : Int) : Int := f.getD (i % (f.length : Int)).toNat 0
theorem atR_height {f : List Int} (h : rosOk f = true) (i : Int) : 0 ≤ atR f i ∧ atR f i ≤ 10000 := by
  obtain ⟨h1, h2, h3⟩ := rosOk_iff.1 h
  have hq0 := Int.emod_nonneg i (show (f.length : Int) ≠ 0 by omega)
  have hq1 := Int.emod_lt_of_pos i (show (0 : Int) < (f.length : Int) by omega)
  have hk : (i % (f.length : Int)).toNat < f.length := by omega
  unfold atR
  simp [hk]
  exact h3 _ hk
theorem atR_nat {f : List Int} (p : Nat) (h : p < f.length) : atR f (p : Int) = f[p] := by
  unfold atR
  rw [Int.emod_eq_of_lt (by omega) (by omega)]
  simp [h]
theorem pickX_lift (f b : List Int) (p j : Nat) : pickX f b 1 liftM p j = atR f ((p : Int) + ((j : Int) - (b.length : Int) / 2)) - b.getD j 0 := by
  unfold pickX liftM atR
  rw [Int.one_mul]
theorem lift_ok {f b : List Int} (hf : rosOk f = true) (hb : rubOk b f.length = true) : rosOk (liftL f b) = true := by
  obtain ⟨h1, h2, h3⟩ := rosOk_iff.1 hf
  obtain ⟨k1, k2, k3, k4, k5⟩ := rubOk_iff.1 hb
  have hm := rub_mid hb
  refine rosOk_iff.2 ⟨by rw [liftL_length]; exact h1, by rw [liftL_length]; exact h2, fun p hp0 => ?_⟩
  have hp : p < f.length := by rw [liftL_length] at hp0; exact hp0
  rw [liftL_getElem f b p hp]
  constructor
  · have := pickN_ge b.length (pickX f b 1 liftM p) b.length (b.length / 2) (by omega)
    rw [pickX_lift, hm] at this
    have e : (p : Int) + ((b.length / 2 : Nat) : Int) - (b.length : Int) / 2 = (p : Int) := by omega
    rw [show (p : Int) + (((b.length / 2 : Nat) : Int) - (b.length : Int) / 2) = (p : Int) from by omega, atR_nat p hp] at this
    have := h3 p hp
    omega
  · obtain ⟨j, hj, he⟩ := pickN_mem b.length (pickX f b 1 liftM p) b.length (by omega)
    rw [he, pickX_lift]
    have h4 := atR_height hf ((p : Int) + ((j : Int) - (b.length : Int) / 2))
    have h5 := k4 j hj
    simp [hj]
    omega
end Go.Proofs.Ytnboppombhibbaa
namespace Go.Proofs.Ytnboppombhibbaa
set_option linter.unusedVariables false
/-- The reference's turned list. -/
def movedL (f : List Int) (s : Int) : List Int := (List.range f.length).map fun (p : Nat) => atR f ((p : Int) - s)
theorem movedL_length (f : List Int) (s : Int) : (movedL f s).length = f.length := by simp [movedL]
theorem movedL_get (f : List Int) (s : Int) (p : Nat) (h : p < f.length) : (movedL f s)[p]'(by rw [movedL_length]; exact h) = atR f ((p : Int) - s) := by simp [movedL]
theorem atR_mod (f : List Int) (i j : Int) (h : i % (f.length : Int) = j % (f.length : Int)) : atR f i = atR f j := by unfold atR; rw [h]
theorem atR_add_len (f : List Int) (i q : Int) : atR f (i + f.length * q) = atR f i := atR_mod _ _ _ (Int.add_mul_emod_self_left ..)
def Shifts (f : List Int) (s : Int) : Prop := ∀ i : Int, atR f (i - s) = atR f i
theorem moved_iff (f : List Int) (s : Int) : movedL f s = f ↔ Shifts f s := by
  constructor
  · intro h i
    by_cases h0 : f.length = 0
    · have : f = [] := List.length_eq_zero_iff.1 h0
      subst this; simp [atR]
    have hq0 := Int.emod_nonneg i (show (f.length : Int) ≠ 0 by omega)
    have hq1 := Int.emod_lt_of_pos i (show (0 : Int) < (f.length : Int) by omega)
    obtain ⟨r, hr⟩ : ∃ r : Nat, i % (f.length : Int) = (r : Int) := ⟨_, (Int.toNat_of_nonneg hq0).symm⟩
    have hrl : r < f.length := by omega
    have e1 := movedL_get f s r hrl
    have e2 : (movedL f s)[r]'(by rw [movedL_length]; exact hrl) = f[r] := by simp [h]
    rw [e2, ← atR_nat r hrl] at e1
    have hi : i = (r : Int) + f.length * (i / f.length) := by have := Int.emod_add_mul_ediv i f.length; omega
    rw [hi, show (r : Int) + f.length * (i / f.length) - s = ((r : Int) - s) + f.length * (i / f.length) from by omega, atR_add_len, atR_add_len]
    exact e1.symm
  · intro h
    apply List.ext_getElem (movedL_length f s)
    intro p h1 h2
    rw [movedL_get f s p h2, h p, atR_nat p h2]
theorem Shifts.zero (f : List Int) : Shifts f 0 := fun i => by rw [Int.sub_zero]
theorem Shifts.add {f : List Int} {s t : Int} (h : Shifts f s) (k : Shifts f t) : Shifts f (s + t) := fun i => by
  rw [show i - (s + t) = (i - s) - t from by omega, k, h]
theorem Shifts.neg {f : List Int} {s : Int} (h : Shifts f s) : Shifts f (-s) := fun i => by
  have := h (i + s)
  rw [show i - -s = i + s from by omega, ← this, show i + s - s = i from by omega]
theorem Shifts.len (f : List Int) : Shifts f f.length := fun i => by
  have := atR_add_len f i (-1)
  rw [← this]; congr 1; omega
theorem Shifts.mul {f : List Int} {s : Int} (h : Shifts f s) (k : Nat) : Shifts f (s * k) := by
  induction k with
  | zero => simpa using Shifts.zero f
  | succ k ih => have := ih.add h; rwa [show s * (k : Int) + s = s * ((k + 1 : Nat) : Int) from by rw [Int.natCast_add, Int.mul_add]; simp] at this
theorem Shifts.mulI {f : List Int} {s : Int} (h : Shifts f s) (k : Int) : Shifts f (s * k) := by
  rcases Int.eq_nat_or_neg k with ⟨n, rfl | rfl⟩
  · exact h.mul n
  · have := (h.mul n).neg; rwa [show -(s * (n : Int)) = s * -(n : Int) from by rw [Int.mul_neg]] at this
/-- s is the least turn, from 1 on, that changes nothing. -/
structure IsLeast (f : List Int) (s : Nat) : Prop where
  pos : 1 ≤ s
  sh : Shifts f s
  least : ∀ j : Nat, 1 ≤ j → j < s → ¬ Shifts f j
theorem IsLeast.dvd {f : List Int} {s : Nat} (h : IsLeast f s) (t : Int) : Shifts f t ↔ (s : Int) ∣ t := by
  constructor
  · intro ht
    have hm := Int.emod_add_mul_ediv t s
    have h0 := Int.emod_nonneg t (show (s : Int) ≠ 0 by have := h.pos; omega)
    have h1 := Int.emod_lt_of_pos t (show (0 : Int) < s by have := h.pos; omega)
    have hs : Shifts f (t % s) := by
      have := ht.add (h.sh.mulI (t / s)).neg
      rwa [show t + -((s : Int) * (t / s)) = t % s from by omega] at this
    by_cases hz : t % s = 0
    · exact Int.dvd_of_emod_eq_zero hz
    · exfalso
      obtain ⟨r, hr⟩ : ∃ r : Nat, t % (s : Int) = (r : Int) := ⟨_, (Int.toNat_of_nonneg h0).symm⟩
      rw [hr] at hs
      exact h.least r (by omega) (by omega) hs
  · rintro ⟨k, rfl⟩
    exact h.sh.mulI k
theorem turn_moved (f : List Int) (s : Nat) (h : s ≤ f.length) : turnL f s = movedL f s := by
  apply List.ext_getElem
  · rw [movedL_length, turnL_length]
  · intro p h1 h2
    rw [movedL_length] at h2
    rw [movedL_get f s p h2]
    revert h1
    unfold turnL
    intro h1
    by_cases hp : p < s
    · rw [List.getElem_append_left (by simp; omega)]
      rw [List.getElem_drop]
      have : atR f ((p : Int) - s) = atR f ((f.length - s + p : Nat) : Int) := atR_mod _ _ _ (by
        rw [show ((f.length - s + p : Nat) : Int) = ((p : Int) - s) + f.length * 1 from by omega, Int.add_mul_emod_self_left])
      rw [this, atR_nat _ (by omega)]
    · rw [List.getElem_append_right (by simp; omega)]
      rw [List.getElem_take]
      have e : (p : Int) - s = ((p - s : Nat) : Int) := by omega
      rw [e, atR_nat _ (by omega)]
      congr 1
      simp
      omega
theorem count_mul (s : Nat) (hs : 1 ≤ s) : ∀ m, ((List.range (s * m)).filter fun j => decide (s ∣ j)).length = m := by
  intro m
  induction m with
  | zero => simp
  | succ m ih =>
    rw [Nat.mul_succ, List.range_add, List.filter_append, List.length_append, ih]
    congr 1
    rw [List.filter_map, List.length_map]
    have : (List.range s).filter ((fun j => decide (s ∣ j)) ∘ fun x => s * m + x) = [0] := by
      obtain ⟨k, rfl⟩ : ∃ k, s = k + 1 := ⟨s - 1, by omega⟩
      rw [List.range_succ_eq_map, List.filter_cons]
      have h0 : ((fun j => decide (k + 1 ∣ j)) ∘ fun x => (k + 1) * m + x) 0 = true := by simp only [Function.comp, decide_eq_true_eq, Nat.add_zero]; exact Nat.dvd_mul_right _ _
      rw [if_pos h0]
      congr 1
      rw [List.filter_eq_nil_iff]
      intro x hx
      simp only [List.mem_map, List.mem_range] at hx
      obtain ⟨y, hy, rfl⟩ := hx
      simp only [Function.comp, decide_eq_true_eq]
      intro hd
      have := (Nat.dvd_add_right (Nat.dvd_mul_right (k + 1) m)).1 hd
      exact absurd (Nat.le_of_dvd (by omega) this) (by omega)
    rw [this]; rfl
theorem IsLeast.period {f : List Int} {s : Nat} (h : IsLeast f s) (hn : 0 < f.length) : periodL f = s := by
  obtain ⟨m, hm⟩ : s ∣ f.length := by
    have := (h.dvd f.length).1 (Shifts.len f)
    exact Int.natCast_dvd_natCast.1 this
  have hp := h.pos
  have hm0 : 0 < m := by
    rcases Nat.eq_zero_or_pos m with h0 | h0
    · rw [h0] at hm; omega
    · exact h0
  have hc : (matchesI f f f.length).length = m := by
    have e : matchesN f f f.length = (List.range (s * m)).filter fun j => decide (s ∣ j) := by
      unfold matchesN
      rw [← hm]
      apply List.filter_congr
      intro j hj
      have hj' : j < f.length := List.mem_range.1 hj
      rw [turn_moved f j (by omega), Bool.eq_iff_iff, beq_iff_eq, moved_iff, h.dvd, decide_eq_true_eq, Int.natCast_dvd_natCast]
    have := count_mul s hp m
    rw [← e] at this
    simpa [matchesI] using this
  unfold periodL
  rw [hc, hm, Nat.mul_div_cancel _ hm0]
end Go.Proofs.Ytnboppombhibbaa
