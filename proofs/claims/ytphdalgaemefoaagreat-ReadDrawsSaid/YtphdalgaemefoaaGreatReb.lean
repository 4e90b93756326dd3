/- Plain laws of what is under a list of heights: a height is the least of heights plus drops; it is a rosette again. The reference of layer 3: Below. Contracts of package rosette: under, Under, Grind. read.Rebuild and the reference's. Lifts and what is under a list: plain laws of ReadRebuilt. -/
import Derived.Test.YtphdalgaemefoaaGreatRos2
import Derived.Test.YtphdalgaemefoaaGreatPatCheck
namespace Go.Proofs.YtphdalgaemefoaaGreat
set_option maxRecDepth 100000
set_option maxHeartbeats 2000000
set_option linter.unusedVariables false
theorem pickN_le (N : Nat) (X : Nat → Int) : ∀ k j, j < k → pickN N X underK k ≤ X j := by
 intro k
 induction k with
 | zero => intro j h; omega
 | succ k ih =>
  intro j h
  rcases Nat.eq_zero_or_pos k with h0 | h0
  ·subst h0
   obtain rfl : j = 0 := by omega
   rw [pickN_one]; omega
  ·rw [pickN_step _ _ _ _ h0, underK_min]
   by_cases hj : j = k
   ·subst hj; omega
   ·have := ih j (by omega); omega
theorem pickN_memU (N : Nat) (X : Nat → Int) : ∀ k, 0 < k → ∃ j, j < k ∧ pickN N X underK k = X j := by
 intro k
 induction k with
 | zero => intro h; omega
 | succ k ih =>
  intro _
  rcases Nat.eq_zero_or_pos k with h0 | h0
  ·subst h0; exact ⟨0, by omega, pickN_one _ _ _⟩
  ·rw [pickN_step _ _ _ _ h0, underK_min]
   obtain ⟨j, hj, he⟩ := ih h0
   by_cases h : X k ≤ pickN N X underK k
   ·exact ⟨k, by omega, by omega⟩
   ·exact ⟨j, by omega, by omega⟩
theorem underL_getElem (f b : List Int) (p : Nat) (h : p < f.length) : (underL f b)[p]'(by rw [underL_length]; exact h) = pickN b.length (pickX f b (-1) underM p) underK b.length := by
 simp [underL, pickedL, pickedP_eq]
theorem pickX_under (f b : List Int) (p j : Nat) : pickX f b (-1) underM p j = atR f ((p : Int) - ((j : Int) - (b.length : Int) / 2)) + b.getD j 0 := by
 unfold pickX underM atR
 rw [Int.neg_one_mul, ← Int.sub_eq_add_neg]
theorem under_ok {f b : List Int} (hf : rosOk f = true) (hb : rubOk b f.length = true) : rosOk (underL f b) = true := by
 obtain ⟨h1, h2, h3⟩ := rosOk_iff.1 hf
 obtain ⟨k1, k2, k3, k4, k5⟩ := rubOk_iff.1 hb
 have hm := rub_mid hb
 refine rosOk_iff.2 ⟨by rw [underL_length]; exact h1, by rw [underL_length]; exact h2, fun p hp0 => ?_⟩
 have hp : p < f.length := by rw [underL_length] at hp0; exact hp0
 rw [underL_getElem f b p hp]
 constructor
 ·obtain ⟨j, hj, he⟩ := pickN_memU b.length (pickX f b (-1) underM p) b.length (by omega)
  rw [he, pickX_under]
  have h4 := atR_height hf ((p : Int) - ((j : Int) - (b.length : Int) / 2))
  have h5 := k4 j hj
  simp [hj]
  omega
 ·have := pickN_le b.length (pickX f b (-1) underM p) b.length (b.length / 2) (by omega)
  rw [pickX_under, hm] at this
  rw [show (p : Int) - (((b.length / 2 : Nat) : Int) - (b.length : Int) / 2) = (p : Int) from by omega, atR_nat p hp] at this
  have := h3 p hp
  omega
def refU (f b : List Int) (p k : Nat) : Int := (List.range k).foldl (fun a j => min a (pickX f b (-1) underM p j)) (atR f p)
theorem refU_zero (f b : List Int) (p : Nat) : refU f b p 0 = atR f p := rfl
theorem refU_succ (f b : List Int) (p k : Nat) : refU f b p (k + 1) = min (refU f b p k) (pickX f b (-1) underM p k) := by
 unfold refU; rw [List.range_succ, List.foldl_append]; rfl
theorem refU_le (f b : List Int) (p : Nat) : ∀ k, refU f b p k ≤ atR f p ∧ ∀ j, j < k → refU f b p k ≤ pickX f b (-1) underM p j := by
 intro k
 induction k with
 | zero => exact ⟨by rw [refU_zero]; omega, fun j h => absurd h (by omega)⟩
 | succ k ih =>
  rw [refU_succ]
  refine ⟨by omega, fun j h => ?_⟩
  by_cases hj : j = k
  ·subst hj; omega
  ·have := ih.2 j (by omega); omega
theorem refU_mem (f b : List Int) (p : Nat) : ∀ k, refU f b p k = atR f p ∨ ∃ j, j < k ∧ refU f b p k = pickX f b (-1) underM p j := by
 intro k
 induction k with
 | zero => exact .inl rfl
 | succ k ih =>
  rw [refU_succ]
  by_cases h : pickX f b (-1) underM p k ≤ refU f b p k
  ·exact .inr ⟨k, by omega, by omega⟩
  ·rcases ih with h1 | ⟨j, hj, h1⟩
   ·exact .inl (by omega)
   ·exact .inr ⟨j, by omega, by omega⟩
theorem refU_near {f b : List Int} (hf : rosOk f = true) (hb : rubOk b f.length = true) (p k : Nat) (hk : k ≤ b.length) : 0 ≤ refU f b p k ∧ refU f b p k ≤ 10000 := by
 have h1 := atR_height hf (p : Int)
 have h2 := (refU_le f b p k).1
 obtain ⟨k1, k2, k3, k4, k5⟩ := rubOk_iff.1 hb
 rcases refU_mem f b p k with h | ⟨j, hj, h⟩
 ·omega
 ·have h4 := atR_height hf ((p : Int) - ((j : Int) - (b.length : Int) / 2))
  have h5 := k4 j (by omega)
  rw [pickX_under] at h
  have hj' : j < b.length := by omega
  simp [hj'] at h
  omega
theorem refU_under {f b : List Int} (hf : rosOk f = true) (hb : rubOk b f.length = true) (p : Nat) (hp : p < f.length) : refU f b p b.length = (underL f b)[p]'(by rw [underL_length]; exact hp) := by
 rw [underL_getElem f b p hp]
 obtain ⟨k1, k2, k3, k4, k5⟩ := rubOk_iff.1 hb
 have hm := rub_mid hb
 have hX : pickX f b (-1) underM p (b.length / 2) = atR f p := by
  rw [pickX_under, hm, show (p : Int) - (((b.length / 2 : Nat) : Int) - (b.length : Int) / 2) = (p : Int) from by omega]; omega
 obtain ⟨j, hj, he⟩ := pickN_memU b.length (pickX f b (-1) underM p) b.length (by omega)
 have h1 := (refU_le f b p b.length).2 j hj
 have h2 : pickN b.length (pickX f b (-1) underM p) underK b.length ≤ refU f b p b.length := by
  rcases refU_mem f b p b.length with h | ⟨i, hi, h⟩
  ·rw [h, ← hX]; exact pickN_le _ _ _ _ (by omega)
  ·rw [h]; exact pickN_le _ _ _ _ hi
 omega
theorem refL_under {f b : List Int} (hf : rosOk f = true) (hb : rubOk b f.length = true) : (List.range f.length).map (fun p => refU f b p b.length) = underL f b := by
 apply List.ext_getElem
 ·simp [underL_length]
 ·intro p h1 h2
  rw [underL_length] at h2
  rw [← refU_under hf hb p h2]
  simp
def fstLt (X Y : List Int) (n : Nat) : Option Nat := (List.range n).find? fun i => decide (X.getD i 0 < Y.getD i 0)
theorem fstLt_none {X Y : List Int} {n : Nat} (h : ∀ i, i < n → Y.getD i 0 ≤ X.getD i 0) : fstLt X Y n = none := by
 unfold fstLt
 rw [List.find?_eq_none]
 intro i hi
 simpa using h i (List.mem_range.1 hi)
theorem fstLt_some {X Y : List Int} {n i : Nat} (hi : i < n) (h : X.getD i 0 < Y.getD i 0) (hb : ∀ j, j < i → Y.getD j 0 ≤ X.getD j 0) : fstLt X Y n = some i := by
 unfold fstLt
 have hn : n = i + (n - i) := by omega
 rw [hn, List.range_add, List.find?_append]
 have h1 : (List.range i).find? (fun i => decide (X.getD i 0 < Y.getD i 0)) = none := by
  rw [List.find?_eq_none]
  intro j hj
  simpa using hb j (List.mem_range.1 hj)
 rw [h1]
 have h2 : n - i = (n - i - 1) + 1 := by omega
 rw [h2, List.range_succ_eq_map]
 simp only [List.map_cons, Nat.add_zero, List.find?_cons, Option.none_or]
 rw [decide_eq_true h]
def groundL (f b : List Int) : List Int := liftL (underL f b) b
theorem groundL_length (f b : List Int) : (groundL f b).length = f.length := by rw [groundL, liftL_length, underL_length]
def rebE (low high rub : List Int) : Int :=
 if rosOk low then
  if bothE high rub = 0 then
   if low.length = high.length then
    if (fstLt high low low.length).isSome then 2 else if (fstLt (groundL high rub) low low.length).isSome then 6 else 0
   else 2
  else bothE high rub
 else 30
def rebN (low high rub : List Int) : Nat := if rebE low high rub = 6 then (fstLt (groundL high rub) low low.length).getD 0 else 0
def rebL (low high rub : List Int) : List Int := if rebE low high rub = 0 then underL high rub else []
theorem bothE_zero {f b : List Int} (h : bothE f b = 0) : rosOk f = true ∧ rubOk b f.length = true := by
 unfold bothE at h
 cases h1 : rosOk f <;> cases h2 : rubOk b f.length <;> simp_all
theorem bothE_six (f b : List Int) : bothE f b ≠ 6 := by
 unfold bothE
 cases rosOk f <;> cases rubOk b f.length <;> simp
end Go.Proofs.YtphdalgaemefoaaGreat
namespace Go.Proofs.YtphdalgaemefoaaGreat
set_option maxRecDepth 100000
set_option maxHeartbeats 2000000
open Go.RowKit
set_option linter.unusedVariables false
set_option linter.unusedSimpArgs false
end Go.Proofs.YtphdalgaemefoaaGreat
namespace Go.Proofs.YtphdalgaemefoaaGreat
set_option maxRecDepth 100000
set_option maxHeartbeats 2000000
open Go.RowKit
set_option linter.unusedVariables false
set_option linter.unusedSimpArgs false
theorem pf_under1 (h d : Int) (W : World) (hh : 0 ≤ h ∧ h ≤ 10000) (hd : 0 ≤ d ∧ d ≤ 10000) : Calls Tryz.prog 75 #[.int .i64 h, .int .i64 d] W fun e w' => e = .returned (.int .i64 (underM h d)) ∧ W = w' := by
 obtain ⟨h1, h2⟩ := hh
 obtain ⟨h3, h4⟩ := hd
 go_enter Tryz.func75, Tryz.ntmps75
 go_wp2
 go_ret
 exact ⟨rfl, rfl⟩
theorem pf_under2 (x y : Int) (W : World) : Calls Tryz.prog 76 #[.int .i64 x, .int .i64 y] W fun e w' => e = .returned (.int .i64 (underK x y)) ∧ W = w' := by
 unfold underK
 by_cases h : y < x
 ·rw [if_pos h]
  go_enter Tryz.func76, Tryz.ntmps76
  go_wp2
  go_ret
  exact ⟨rfl, rfl⟩
 ·rw [if_neg h]
  have h' : x ≤ y := by omega
  go_enter Tryz.func76, Tryz.ntmps76
  go_wp2
  go_ret
  exact ⟨rfl, rfl⟩
theorem pf_under (vf vb : Value) (f b : List Int) (w : World) (hf : Ints w vf f) (hb : Ints w vb b) (hfo : rosOk f = true) (hbo : rubOk b f.length = true) :
  Calls Tryz.prog 61 #[vf, vb] w fun e w' => ∃ v', e = .returned v' ∧ Below w.heap.size w w' ∧ w'.ownsRow w.heap.size 3 1 v' (underL f b).length ((underL f b).map vint) := by
 have hf0 := Lib.hid hf
 have hb0 := Lib.hid hb
 obtain ⟨A, c, rfl, hlc, hcm, _, hr⟩ := hf
 obtain ⟨A', c', rfl, hlc', hcm', _, hr'⟩ := hb
 clear hr hr'
 go_enter Tryz.func61, Tryz.ntmps61
 go_wp2_with (first | (go_at_call 74; refine (pf_picked f b _ _ _ hf0.out hb0.out (-1) 75 76 underM underK hfo hbo (.inr rfl) (fun _ _ => by kernel_rfl) (fun _ _ => by kernel_rfl) (fun h d W h1 h2 => pf_under1 h d W h1 h2) (fun h d h1 h2 => by unfold Near underM; omega) (fun x y W _ _ => pf_under2 x y W) (fun x y h1 h2 => by unfold Near underK at *; split <;> omega)).mono ?_; rintro e w' ⟨v', rfl, h1, h2⟩))
 go_ret
 exact ⟨v', rfl, h1, h2⟩
theorem pf_made2 (g1 g2 : Nat) (G1 G2 : List Int → List Int → List Int) (vf vb : Value) (f b : List Int) (w : World) (ba : Nat) (hf : Ints w vf f) (hb : Ints w vb b) (hba : ba < w.heap.size)
  (hc : w.cell? ⟨ba, 0, none⟩ = some (.func (.func g1) #[] #[])) (hc2 : w.cell? ⟨ba, 1, none⟩ = some (.func (.func g2) #[] #[])) (hg : Plain Tryz.prog g1) (hg2 : Plain Tryz.prog g2)
  (hok1 : rosOk f = true → rubOk b f.length = true → rosOk (G1 f b) = true ∧ rubOk b (G1 f b).length = true)
  (hG : ∀ (vf' vb' : Value) (W : World), Ints W vf' f → Ints W vb' b → rosOk f = true → rubOk b f.length = true → Calls Tryz.prog g1 #[vf', vb'] W fun e w' => ∃ v', e = .returned v' ∧ Below W.heap.size W w' ∧ w'.ownsRow W.heap.size 3 1 v' (G1 f b).length ((G1 f b).map vint))
  (hG2 : ∀ (vf' vb' : Value) (W : World), Ints W vf' (G1 f b) → Ints W vb' b → rosOk (G1 f b) = true → rubOk b (G1 f b).length = true → Calls Tryz.prog g2 #[vf', vb'] W fun e w' => ∃ v', e = .returned v' ∧ Below W.heap.size W w' ∧ w'.ownsRow W.heap.size 3 1 v' (G2 (G1 f b) b).length ((G2 (G1 f b) b).map vint))
  (E : Int) (hE : bothE f b = E) :
  Calls Tryz.prog 60 #[vf, vb, .slice (some ⟨ba, 0, none⟩) 2 2] w fun e w' => ∃ v', e = .returned (.tuple #[v', .int .i64 E]) ∧ Below w.heap.size w w' ∧
   (E = 0 → w'.ownsRow w.heap.size 3 1 v' (G2 (G1 f b) b).length ((G2 (G1 f b) b).map vint)) ∧ (E ≠ 0 → v' = .slice none 0 0) := by
 have hf0 := Lib.hid hf
 have hb0 := Lib.hid hb
 obtain ⟨A, c, rfl, hlc, hcm, _, hr⟩ := hf
 obtain ⟨A', c', rfl, hlc', hcm', _, hr'⟩ := hb
 have hg' := hg
 have hg2' := hg2
 unfold Plain at hg' hg2'
 have hE' := hyd1 hE
 clear hr hr' hE
 by_cases h0 : E = 0
 ·have hok := bothE_zero (hE'.out.trans h0)
  have hok2 := hok1 hok.1 hok.2
  have ⟨hok', hok2'⟩ := hyd2 hok hok2
  clear hok hok2 hok1
  subst h0
  go_enter Tryz.func60, Tryz.ntmps60
  go_wp2_with (first | (go_at_call 73; refine (pf_both _ _ f b _ hf0.out hb0.out).mono ?_; rintro e w' ⟨rfl, rfl⟩; rw [hE'.out]))
  go_loopw [19, 0] (fun i s wr => ∃ k : Nat, k ≤ 2 ∧ i = .int .i64 k ∧ Below w.heap.size w wr ∧ Hid ((k = 0 → s = .slice A f.length c ∧ wr = w) ∧ (k = 1 → wr.ownsRow w.heap.size 3 1 s (G1 f b).length ((G1 f b).map vint)) ∧ (k = 2 → wr.ownsRow w.heap.size 3 1 s (G2 (G1 f b) b).length ((G2 (G1 f b) b).map vint)))) (fun i _ _ => 2 - (intOf i).toNat)
  case atStart => exact ⟨0, by omega, rfl, Below.refl _ _, ⟨fun _ => ⟨rfl, rfl⟩, fun h => absurd h (by omega), fun h => absurd h (by omega)⟩⟩
  case round =>
   obtain ⟨k, hk, rfl, hbw, hst⟩ := hrel
   obtain rfl | rfl | rfl : k = 0 ∨ k = 1 ∨ k = 2 := by omega
   ·obtain ⟨rfl, rfl⟩ := hst.out.1 rfl
    clear hst
    go_wp2_with (first | (refine (hG _ _ _ hf0.out hb0.out hok'.out.1 hok'.out.2).mono ?_; rintro e w' ⟨v', rfl, h1, h2⟩; have h2' := Lib.hid h2; clear h2))
    go_roundw
    case rel => exact ⟨1, by omega, by go_num, h1, ⟨fun h => absurd h (by omega), fun _ => h2'.out, fun h => absurd h (by omega)⟩⟩
    case measure => simp [intOf]
   ·have hst' := Lib.hid (hst.out.2.1 rfl)
    clear hst
    have hcw : wr.cell? ⟨ba, 1, none⟩ = some (.func (.func g2) #[] #[]) := (hbw.cell (p := ⟨ba, 1, none⟩) hba).trans hc2
    have hbz := hbw.size
    clear hc hc2
    go_wp2_with (first | (refine (hG2 _ _ _ (Arr.of_own hst'.out) (hb0.out.below hbw) hok2'.out.1 hok2'.out.2).mono ?_; rintro e w' ⟨v', rfl, h1, h2⟩; have h2' := Lib.hid (own_base h2 hbz); clear h2))
    go_roundw
    case rel => exact ⟨2, by omega, by go_num, hbw.trans (h1.mono hbz), ⟨fun h => absurd h (by omega), fun h => absurd h (by omega), fun _ => h2'.out⟩⟩
    case measure => simp [intOf]
   ·have hst' := Lib.hid (hst.out.2.2 rfl)
    clear hst
    go_wp2
    go_ret2
    exact ⟨_, rfl, hbw, fun _ => hst'.out, fun h => absurd rfl h⟩
 ·have hne : (E != 0) = true := by simpa using h0
  have h0' := hyd1 h0
  clear h0
  go_enter Tryz.func60, Tryz.ntmps60
  go_wp2_with (first | (go_at_call 73; refine (pf_both _ _ f b _ hf0.out hb0.out).mono ?_; rintro e w' ⟨rfl, rfl⟩; rw [hE'.out]))
  go_ret2
  exact ⟨_, rfl, Below.refl _ _, fun h => absurd h h0'.out, fun _ => rfl⟩
theorem pf_ros_Grind (vf vb : Value) (f b : List Int) (w : World) (hf : Ints w vf f) (hb : Ints w vb b) (E : Int) (hE : bothE f b = E) :
  Calls Tryz.prog 38 #[vf, vb] w fun e w' => ∃ v', e = .returned (.tuple #[v', .int .i64 E]) ∧ Below w.heap.size w w' ∧
   (E = 0 → w'.ownsRow w.heap.size 3 1 v' (groundL f b).length ((groundL f b).map vint)) ∧ (E ≠ 0 → v' = .slice none 0 0) := by
 unfold groundL
 have hf0 := Lib.hid hf
 have hb0 := Lib.hid hb
 obtain ⟨A, c, rfl, hlc, hcm, _, hr⟩ := hf
 obtain ⟨A', c', rfl, hlc', hcm', _, hr'⟩ := hb
 clear hr hr'
 have hE' := hyd1 hE
 clear hE
 go_enter Tryz.func38, Tryz.ntmps38
 go_wp2_with (first | (go_at_call 60; refine (pf_made2 61 62 underL liftL _ _ f b _ w.heap.size (hf0.out.below (alc1 _ _)) (hb0.out.below (alc1 _ _)) (by simp) (World.cell?_alloc_at _ _ _ _ rfl) (World.cell?_alloc_at _ _ _ _ rfl) (fun _ _ => by kernel_rfl) (fun _ _ => by kernel_rfl) (fun h1 h2 => ⟨under_ok h1 h2, by rw [underL_length]; exact h2⟩) (fun vf' vb' W h1 h2 h3 h4 => pf_under vf' vb' f b W h1 h2 h3 h4) (fun vf' vb' W h1 h2 h3 h4 => pf_lifted vf' vb' (underL f b) b W h1 h2 h3 h4) E hE'.out).mono ?_; rintro e w' ⟨v', rfl, h1, h2, h3⟩))
 go_ret2
 exact ⟨v', rfl, (alc1 _ _).trans (h1.mono (by simp)), fun h => own_base (h2 h) (by simp), h3⟩
theorem pf_ros_Under (vf vb : Value) (f b : List Int) (w : World) (hf : Ints w vf f) (hb : Ints w vb b) (E : Int) (hE : bothE f b = E) :
  Calls Tryz.prog 39 #[vf, vb] w fun e w' => ∃ v', e = .returned (.tuple #[v', .int .i64 E]) ∧ Below w.heap.size w w' ∧
   (E = 0 → w'.ownsRow w.heap.size 3 1 v' (underL f b).length ((underL f b).map vint)) ∧ (E ≠ 0 → v' = .slice none 0 0) := by
 have hf0 := Lib.hid hf
 have hb0 := Lib.hid hb
 obtain ⟨A, c, rfl, hlc, hcm, _, hr⟩ := hf
 obtain ⟨A', c', rfl, hlc', hcm', _, hr'⟩ := hb
 clear hr hr'
 have hE' := hyd1 hE
 clear hE
 go_enter Tryz.func39, Tryz.ntmps39
 go_wp2_with (first | (go_at_call 60; refine (pf_made1 61 underL _ _ f b _ w.heap.size (hf0.out.below (alc1 _ _)) (hb0.out.below (alc1 _ _)) (by simp) (World.cell?_alloc_at _ _ _ _ rfl) (fun _ _ => by kernel_rfl) (underL_length f b) (fun vf' vb' W h1 h2 h3 h4 => pf_under vf' vb' f b W h1 h2 h3 h4) E hE'.out).mono ?_; rintro e w' ⟨v', rfl, h1, h2, h3⟩))
 go_ret2
 exact ⟨v', rfl, (alc1 _ _).trans (h1.mono (by simp)), fun h => own_base (h2 h) (by simp), h3⟩
end Go.Proofs.YtphdalgaemefoaaGreat
namespace Go.Proofs.YtphdalgaemefoaaGreat
set_option maxRecDepth 100000
set_option maxHeartbeats 2000000
open Go.RowKit
set_option linter.unusedVariables false
set_option linter.unusedSimpArgs false
def RebPost (w : World) (low high rub : List Int) (e : Ending) (w' : World) : Prop := ∃ v', e = .returned (.tuple #[v', .int .i64 (rebN low high rub : Nat), .int .i64 (rebE low high rub)]) ∧ Below w.heap.size w w' ∧
 w'.ownsRow w.heap.size 3 1 v' (rebL low high rub).length ((rebL low high rub).map vint)
theorem reb_fail {w w' : World} {low high rub : List Int} {E : Int} {N : Int} (hE : rebE low high rub = E) (h0 : E ≠ 0) (hN : (rebN low high rub : Int) = N) (hb : Below w.heap.size w w') :
  RebPost w low high rub (.returned (.tuple #[.slice none 0 0, .int .i64 N, .int .i64 E])) w' := by
 refine ⟨_, by rw [hE, hN], hb, ?_⟩
 have : rebL low high rub = [] := by unfold rebL; rw [hE, if_neg h0]
 rw [this]
 exact World.ownsRow_nil _ _ _ _
theorem reb_N0 {low high rub : List Int} {E : Int} (hE : rebE low high rub = E) (h6 : E ≠ 6) : (rebN low high rub : Int) = 0 := by
 unfold rebN; rw [hE, if_neg h6]; rfl
theorem reb_done {w w' : World} {low high rub : List Int} {v : Value} (hE : rebE low high rub = 0) (hb : Below w.heap.size w w') (ho : w'.ownsRow w.heap.size 3 1 v (underL high rub).length ((underL high rub).map vint)) :
  RebPost w low high rub (.returned (.tuple #[v, .int .i64 0, .int .i64 0])) w' := by
 refine ⟨v, by rw [hE, reb_N0 hE (by decide)], hb, ?_⟩
 have : rebL low high rub = underL high rub := by unfold rebL; rw [hE, if_pos rfl]
 rw [this]
 exact ho
theorem rebE_low {low high rub : List Int} (h : rosOk low = false) : rebE low high rub = 30 := by unfold rebE; rw [h]; rfl
theorem rebE_both {low high rub : List Int} {E : Int} (h : rosOk low = true) (hb : bothE high rub = E) (h0 : E ≠ 0) : rebE low high rub = E := by
 unfold rebE; rw [h, if_pos rfl, hb, if_neg h0]
theorem rebE_len {low high rub : List Int} (h : rosOk low = true) (hb : bothE high rub = 0) (hl : low.length ≠ high.length) : rebE low high rub = 2 := by
 unfold rebE; rw [h, if_pos rfl, hb, if_pos rfl, if_neg hl]
theorem rebE_arg {low high rub : List Int} (h : rosOk low = true) (hb : bothE high rub = 0) (hl : low.length = high.length) {i : Nat} (hi : fstLt high low low.length = some i) : rebE low high rub = 2 := by
 unfold rebE; rw [h, if_pos rfl, hb, if_pos rfl, if_pos hl, hi]; rfl
theorem rebE_none {low high rub : List Int} (h : rosOk low = true) (hb : bothE high rub = 0) (hl : low.length = high.length) (hi : fstLt high low low.length = none) {i : Nat} (hj : fstLt (groundL high rub) low low.length = some i) : rebE low high rub = 6 ∧ (rebN low high rub : Int) = i := by
 have h6 : rebE low high rub = 6 := by unfold rebE; rw [h, if_pos rfl, hb, if_pos rfl, if_pos hl, hi, hj]; rfl
 exact ⟨h6, by unfold rebN; rw [h6, if_pos rfl, hj]; rfl⟩
theorem rebE_ok {low high rub : List Int} (h : rosOk low = true) (hb : bothE high rub = 0) (hl : low.length = high.length) (hi : fstLt high low low.length = none) (hj : fstLt (groundL high rub) low low.length = none) : rebE low high rub = 0 := by
 unfold rebE; rw [h, if_pos rfl, hb, if_pos rfl, if_pos hl, hi, hj]; rfl
theorem looks {w : World} {A : Option Addr} {n c : Nat} {xs : List Int} (h : Ints w (.slice A n c) xs) {k : Nat} (hk : k < xs.length) :
  ∃ b off, A = some ⟨b, off, none⟩ ∧ w.cell? ⟨b, off + k, none⟩ = some (.int .i64 (xs.getD k 0)) := by
 obtain ⟨b, off, ha, _, hc⟩ := h.look hk
 exact ⟨b, off, ha, by rw [hc]; simp [hk]⟩
theorem pf_Rebuild (vl vh vr : Value) (low high rub : List Int) (w : World) (hl : Ints w vl low) (hh : Ints w vh high) (hr : Ints w vr rub) :
  Calls Tryz.prog 16 #[vl, vh, vr] w (RebPost w low high rub) := by
 have hl0 := Lib.hid hl
 have hh0 := Lib.hid hh
 have hr0 := Lib.hid hr
 obtain ⟨A, c, rfl, hlc, hcm, _, _⟩ := hl
 obtain ⟨A', c', rfl, hlc', hcm', _, _⟩ := hh
 obtain ⟨A2, c2, rfl, _, _, _, _⟩ := hr
 unfold maxLen at hcm hcm'
 obtain ⟨B, hB⟩ : ∃ B, rosOk low = B := ⟨_, rfl⟩
 obtain ⟨E, hE⟩ : ∃ E, bothE high rub = E := ⟨_, rfl⟩
 cases B with
 | false =>
  have h1 := Lib.hid (rebE_low (high := high) (rub := rub) hB)
  have ⟨hB', hE'⟩ := hyd2 hB hE
  clear hE hB
  go_enter Tryz.func16, Tryz.ntmps16
  go_wp2_with (first | (go_at_call 25; ((with_reducible refine (pf_ros_Check _ low _ hl0.out false hB'.out).mono ?_); rintro e w' ⟨rfl, rfl⟩)))
  go_ret3
  exact reb_fail h1.out (by decide) (reb_N0 h1.out (by decide)) (Below.refl _ _)
 | true =>
  by_cases hE0 : E = 0
  ·subst hE0
   by_cases hlen : low.length = high.length
   ·have hlt1 : ((low.length : Int) != (high.length : Int)) = false := by simp [hlen]
    have hgl : (groundL high rub).length = low.length := by rw [groundL_length, hlen]
    have ⟨hB', hE', hlen', hgl'⟩ := hyd4 hB hE hlen hgl
    clear hgl hlen hE hB
    go_enter Tryz.func16, Tryz.ntmps16
    go_wp2_with (first | (go_at_call 25; ((with_reducible refine (pf_ros_Check _ low _ hl0.out true hB'.out).mono ?_); rintro e w' ⟨rfl, rfl⟩)) | (go_at_call 38; ((with_reducible refine (pf_ros_Grind _ _ high rub _ hh0.out hr0.out 0 hE'.out).mono ?_); rintro e w' ⟨vg, rfl, hb1, ho1, -⟩; obtain ⟨gA, gc, rfl, -, -, -, -⟩ := Arr.of_own (ho1 rfl); have ho1' := Lib.hid (Arr.of_own (ho1 rfl)); clear ho1)))
    go_loopw [34] (fun i wr => ∃ k : Nat, k ≤ low.length ∧ i = .int .i64 k ∧ Below w.heap.size w wr ∧ Hid (Ints wr (.slice gA (groundL high rub).length gc) (groundL high rub)) ∧ Hid (∀ j, j < k → low.getD j 0 ≤ high.getD j 0)) (fun i _ => low.length - (intOf i).toNat)
    case atStart => exact ⟨0, Nat.zero_le _, rfl, hb1, ho1', Lib.hid fun j h => absurd h (by omega)⟩
    case round =>
     obtain ⟨k, hk, rfl, hbw, hg, hno⟩ := hrel
     clear hb1 ho1'
     by_cases hlt : k < low.length
     ·have hlt' : k < high.length := by have := hlen'.out; omega
      obtain ⟨b1, o1, rfl, hk1⟩ := looks (hl0.out.below hbw) hlt
      obtain ⟨b2, o2, rfl, hk2⟩ := looks (hh0.out.below hbw) hlt'
      obtain ⟨x, hx⟩ : ∃ x, low.getD k 0 = x := ⟨_, rfl⟩
      obtain ⟨y, hy⟩ : ∃ y, high.getD k 0 = y := ⟨_, rfl⟩
      rw [hx] at hk1
      rw [hy] at hk2
      have i1 : (0 : Int) ≤ (k : Int) := by omega
      have i2 : (k : Int) < (low.length : Int) := by omega
      have i3 : (k : Int) < (high.length : Int) := by omega
      have ⟨hx', hy'⟩ := hyd2 hx hy
      clear hy hx
      by_cases hyx : y < x
      ·have hf := fstLt_some (X := high) (Y := low) hlt (by rw [hx'.out, hy'.out]; exact hyx) hno.out
       have h1 := Lib.hid (rebE_arg hB'.out hE'.out hlen'.out hf)
       clear hf
       go_wp2
       go_quiet (fail)
       go_wp2
       go_ret3
       exact reb_fail h1.out (by decide) (reb_N0 h1.out (by decide)) (below_drewN' hbw _)
      ·go_wp2
       go_quiet (fail)
       go_wp2
       go_roundw
       case rel => exact ⟨k + 1, by omega, by go_num, below_drewN' hbw _, hg, Lib.hid fun j h => by
        by_cases hjk : j = k
        ·subst hjk; rw [hx'.out, hy'.out]; omega
        ·exact hno.out j (by omega)⟩
       case measure => simp [intOf]; omega
     ·obtain rfl : k = low.length := by omega
      have hf1 := Lib.hid (fstLt_none hno.out)
      have hbz := hbw.size
      clear hno
      go_wp2
      generalize wr = w0 at hbw hg hbz ⊢
      clear wr
      go_loopw [49] (fun i wr => ∃ k : Nat, k ≤ low.length ∧ i = .int .i64 k ∧ Below w.heap.size w wr ∧ Hid (Ints wr (.slice gA (groundL high rub).length gc) (groundL high rub)) ∧ Hid (∀ j, j < k → low.getD j 0 ≤ (groundL high rub).getD j 0)) (fun i _ => low.length - (intOf i).toNat)
      case atStart => exact ⟨0, Nat.zero_le _, rfl, hbw, hg, Lib.hid fun j h => absurd h (by omega)⟩
      case round =>
       obtain ⟨k, hk, rfl, hbv, hgv, hno⟩ := hrel
       clear hbw hg hbz
       by_cases hlt : k < low.length
       ·have hlt' : k < (groundL high rub).length := by have := hgl'.out; omega
        obtain ⟨b1, o1, rfl, hk1⟩ := looks (hl0.out.below hbv) hlt
        obtain ⟨b2, o2, rfl, hk2⟩ := looks hgv.out hlt'
        obtain ⟨x, hx⟩ : ∃ x, low.getD k 0 = x := ⟨_, rfl⟩
        obtain ⟨y, hy⟩ : ∃ y, (groundL high rub).getD k 0 = y := ⟨_, rfl⟩
        rw [hx] at hk1
        rw [hy] at hk2
        have i1 : (0 : Int) ≤ (k : Int) := by omega
        have i2 : (k : Int) < (low.length : Int) := by omega
        have i3 : (k : Int) < ((groundL high rub).length : Int) := by omega
        have ⟨hx', hy'⟩ := hyd2 hx hy
        clear hy hx
        by_cases hyx : y < x
        ·have hf := fstLt_some (X := groundL high rub) (Y := low) hlt (by rw [hx'.out, hy'.out]; exact hyx) hno.out
         have h1 := Lib.hid (rebE_none hB'.out hE'.out hlen'.out hf1.out hf)
         clear hf
         go_wp2
         go_quiet (fail)
         go_wp2
         go_ret3
         exact reb_fail h1.out.1 (by decide) h1.out.2 (below_drewN' hbv _)
        ·go_wp2
         go_quiet (fail)
         go_wp2
         go_roundw
         case rel => exact ⟨k + 1, by omega, by go_num, below_drewN' hbv _, hgv, Lib.hid fun j h => by
          by_cases hjk : j = k
          ·subst hjk; rw [hx'.out, hy'.out]; omega
          ·exact hno.out j (by omega)⟩
         case measure => simp [intOf]; omega
       ·obtain rfl : k = low.length := by omega
        have hf2 := fstLt_none hno.out
        have h1 := Lib.hid (rebE_ok hB'.out hE'.out hlen'.out hf1.out hf2)
        have hbz := hbv.size
        clear hno hf2 hgv
        go_wp2_with (first | (go_at_call 39; ((with_reducible refine (pf_ros_Under _ _ high rub _ (hh0.out.below hbv) (hr0.out.below hbv) 0 hE'.out).mono ?_); rintro e w' ⟨vu, rfl, hb1, ho1, -⟩; have ho1' := Lib.hid (ho1 rfl); clear ho1)))
        go_ret3
        exact reb_done h1.out (hbv.trans (hb1.mono hbz)) (own_base ho1'.out hbz)
   ·have h1 := Lib.hid (rebE_len hB hE hlen)
    have hlt1 : ((low.length : Int) != (high.length : Int)) = true := by simp; omega
    have ⟨hB', hE', hlen'⟩ := hyd3 hB hE hlen
    clear hlen hE hB
    go_enter Tryz.func16, Tryz.ntmps16
    go_wp2_with (first | (go_at_call 25; ((with_reducible refine (pf_ros_Check _ low _ hl0.out true hB'.out).mono ?_); rintro e w' ⟨rfl, rfl⟩)) | (go_at_call 38; ((with_reducible refine (pf_ros_Grind _ _ high rub _ hh0.out hr0.out 0 hE'.out).mono ?_); rintro e w' ⟨vg, rfl, hb1, ho1, -⟩; obtain ⟨gA, gc, rfl, -, -, -, -⟩ := Arr.of_own (ho1 rfl); clear ho1)))
    go_ret3
    exact reb_fail h1.out (by decide) (reb_N0 h1.out (by decide)) hb1
  ·have h1 := Lib.hid (rebE_both hB hE hE0)
   have h6 : E ≠ 6 := by rw [← hE]; exact bothE_six high rub
   have hne : (E != 0) = true := by simpa using hE0
   have ⟨hE0', h6'⟩ := hyd2 hE0 h6
   clear hE0 h6
   have ⟨hB', hE'⟩ := hyd2 hB hE
   clear hE hB
   go_enter Tryz.func16, Tryz.ntmps16
   go_wp2_with (first | (go_at_call 25; ((with_reducible refine (pf_ros_Check _ low _ hl0.out true hB'.out).mono ?_); rintro e w' ⟨rfl, rfl⟩)) | (go_at_call 38; ((with_reducible refine (pf_ros_Grind _ _ high rub _ hh0.out hr0.out E hE'.out).mono ?_); rintro e w' ⟨vg, rfl, hb1, -, hv⟩; obtain rfl := hv hE0'.out)))
   go_ret3
   exact reb_fail h1.out hE0'.out (reb_N0 h1.out h6'.out) hb1
end Go.Proofs.YtphdalgaemefoaaGreat
namespace Go.Proofs.YtphdalgaemefoaaGreat
set_option maxRecDepth 100000
set_option maxHeartbeats 2000000
set_option linter.unusedVariables false
theorem atR_rep (f : List Int) (h0 : 0 < f.length) (i : Int) : ∃ q, ∃ (h : q < f.length), i % (f.length : Int) = (q : Int) ∧ atR f i = f[q] := by
 have h1 := Int.emod_nonneg i (show (f.length : Int) ≠ 0 by omega)
 have h2 := Int.emod_lt_of_pos i (show (0 : Int) < (f.length : Int) by omega)
 refine ⟨(i % (f.length : Int)).toNat, by omega, by omega, ?_⟩
 unfold atR
 rw [List.getD_eq_getElem?_getD, List.getElem?_eq_getElem (by omega)]
 rfl
theorem atR_le {f g : List Int} (hl : f.length = g.length) (h0 : 0 < f.length) (h : ∀ p (h1 : p < f.length) (h2 : p < g.length), f[p] ≤ g[p]) (i : Int) : atR f i ≤ atR g i := by
 obtain ⟨q, hq, e1, e2⟩ := atR_rep f h0 i
 obtain ⟨r, hr, e3, e4⟩ := atR_rep g (by omega) i
 rw [← hl, e1] at e3
 obtain rfl : q = r := by omega
 rw [e2, e4]
 exact h q hq hr
theorem emod_add {a b n d : Int} (h : a % n = b) : (b + d) % n = (a + d) % n := by rw [← h, Int.emod_add_emod]
theorem lift_ge {f b : List Int} (h0 : 0 < f.length) (i : Int) {j : Nat} (hj : j < b.length) : atR f (i + ((j : Int) - (b.length : Int) / 2)) - b.getD j 0 ≤ atR (liftL f b) i := by
 obtain ⟨q, hq, e1, e2⟩ := atR_rep (liftL f b) (by rw [liftL_length]; exact h0) i
 rw [liftL_length] at hq e1
 rw [e2, liftL_getElem f b q hq]
 have := pickN_ge b.length (pickX f b 1 liftM q) b.length j hj
 rw [pickX_lift] at this
 rw [← atR_mod f ((q : Int) + ((j : Int) - (b.length : Int) / 2)) (i + ((j : Int) - (b.length : Int) / 2)) (emod_add e1)]
 exact this
theorem lift_le {f b : List Int} {p : Nat} (hp : p < f.length) (hb : 0 < b.length) {v : Int} (h : ∀ j, j < b.length → atR f ((p : Int) + ((j : Int) - (b.length : Int) / 2)) - b.getD j 0 ≤ v) : (liftL f b)[p]'(by rw [liftL_length]; exact hp) ≤ v := by
 rw [liftL_getElem f b p hp]
 obtain ⟨j, hj, he⟩ := pickN_mem b.length (pickX f b 1 liftM p) b.length hb
 rw [he, pickX_lift]
 exact h j hj
theorem under_le {f b : List Int} (h0 : 0 < f.length) (i : Int) {j : Nat} (hj : j < b.length) : atR (underL f b) i ≤ atR f (i - ((j : Int) - (b.length : Int) / 2)) + b.getD j 0 := by
 obtain ⟨q, hq, e1, e2⟩ := atR_rep (underL f b) (by rw [underL_length]; exact h0) i
 rw [underL_length] at hq e1
 rw [e2, underL_getElem f b q hq]
 have := pickN_le b.length (pickX f b (-1) underM q) b.length j hj
 rw [pickX_under] at this
 rw [← atR_mod f ((q : Int) - ((j : Int) - (b.length : Int) / 2)) (i - ((j : Int) - (b.length : Int) / 2)) (by rw [Int.sub_eq_add_neg, Int.sub_eq_add_neg]; exact emod_add e1)]
 exact this
theorem under_ge {f b : List Int} {p : Nat} (hp : p < f.length) (hb : 0 < b.length) {v : Int} (h : ∀ j, j < b.length → v ≤ atR f ((p : Int) - ((j : Int) - (b.length : Int) / 2)) + b.getD j 0) : v ≤ (underL f b)[p]'(by rw [underL_length]; exact hp) := by
 rw [underL_getElem f b p hp]
 obtain ⟨j, hj, he⟩ := pickN_memU b.length (pickX f b (-1) underM p) b.length hb
 rw [he, pickX_under]
 exact h j hj
theorem ground_le {h b : List Int} (hb : 0 < b.length) {p : Nat} (hp : p < h.length) : (groundL h b)[p]'(by rw [groundL_length]; exact hp) ≤ h[p] := by
 unfold groundL
 refine lift_le (f := underL h b) (by rw [underL_length]; exact hp) hb fun j hj => ?_
 have := under_le (f := h) (b := b) (by omega) ((p : Int) + ((j : Int) - (b.length : Int) / 2)) hj
 rw [show (p : Int) + ((j : Int) - (b.length : Int) / 2) - ((j : Int) - (b.length : Int) / 2) = (p : Int) by omega, atR_nat p hp] at this
 omega
theorem le_under {f h b : List Int} (hb : 0 < b.length) (hl : f.length = h.length) (hx : ∀ p (h1 : p < (liftL f b).length) (h2 : p < h.length), (liftL f b)[p] ≤ h[p]) {p : Nat} (hp : p < f.length) : f[p] ≤ (underL h b)[p]'(by rw [underL_length]; omega) := by
 refine under_ge (f := h) (by omega) hb fun j hj => ?_
 have h1 := lift_ge (f := f) (b := b) (by omega) ((p : Int) - ((j : Int) - (b.length : Int) / 2)) hj
 rw [show (p : Int) - ((j : Int) - (b.length : Int) / 2) + ((j : Int) - (b.length : Int) / 2) = (p : Int) by omega, atR_nat p hp] at h1
 have h2 := atR_le (f := liftL f b) (g := h) (by rw [liftL_length]; exact hl) (by rw [liftL_length]; omega) hx ((p : Int) - ((j : Int) - (b.length : Int) / 2))
 omega
theorem lift_mono {f g b : List Int} (hb : 0 < b.length) (hl : f.length = g.length) (h : ∀ p (h1 : p < f.length) (h2 : p < g.length), f[p] ≤ g[p]) {p : Nat} (hp : p < f.length) : (liftL f b)[p]'(by rw [liftL_length]; exact hp) ≤ (liftL g b)[p]'(by rw [liftL_length]; omega) := by
 refine lift_le hp hb fun j hj => ?_
 have h1 := atR_le hl (by omega) h ((p : Int) + ((j : Int) - (b.length : Int) / 2))
 have h2 := lift_ge (f := g) (b := b) (by omega) (p : Int) hj
 rw [atR_nat p (show p < (liftL g b).length by rw [liftL_length]; omega)] at h2
 omega
theorem reb_ok {f b low high : List Int} (hf : rosOk f = true) (hb : rubOk b f.length = true) (hlo : rosOk low = true) (hhi : rosOk high = true) (l1 : low.length = f.length) (l2 : high.length = f.length)
  (h1 : ∀ p (h : p < f.length), low[p]'(by omega) ≤ (liftL f b)[p]'(by rw [liftL_length]; exact h)) (h2 : ∀ p (h : p < f.length), (liftL f b)[p]'(by rw [liftL_length]; exact h) ≤ high[p]'(by omega)) :
  rebE low high b = 0 ∧ (∀ p (h : p < f.length), f[p] ≤ (underL high b)[p]'(by rw [underL_length]; omega)) ∧ (∀ p (h : p < f.length), low[p]'(by omega) ≤ (groundL high b)[p]'(by rw [groundL_length]; omega)) := by
 obtain ⟨k1, k2, k3, k4, k5⟩ := rubOk_iff.1 hb
 have hb0 : 0 < b.length := by omega
 have hu : ∀ p (h : p < f.length), f[p] ≤ (underL high b)[p]'(by rw [underL_length]; omega) := fun p h => le_under hb0 l2.symm (fun p g1 g2 => by rw [liftL_length] at g1; exact h2 p g1) h
 have hg : ∀ p (h : p < f.length), low[p]'(by omega) ≤ (groundL high b)[p]'(by rw [groundL_length]; omega) := fun p h => Int.le_trans (h1 p h) (lift_mono hb0 (by rw [underL_length]; exact l2.symm) (fun p g1 g2 => hu p g1) h)
 refine ⟨?_, hu, hg⟩
 unfold rebE
 have e1 : bothE high b = 0 := by unfold bothE; rw [hhi, if_pos rfl, l2, hb]; rfl
 have e2 : fstLt high low low.length = none := fstLt_none fun i hi => by
  rw [List.getD_eq_getElem?_getD, List.getD_eq_getElem?_getD, List.getElem?_eq_getElem hi, List.getElem?_eq_getElem (show i < high.length by omega)]
  exact Int.le_trans (h1 i (by omega)) (h2 i (by omega))
 have e3 : fstLt (groundL high b) low low.length = none := fstLt_none fun i hi => by
  rw [List.getD_eq_getElem?_getD, List.getD_eq_getElem?_getD, List.getElem?_eq_getElem hi, List.getElem?_eq_getElem (show i < (groundL high b).length by rw [groundL_length]; omega)]
  exact hg i (by omega)
 rw [hlo, if_pos rfl, e1, if_pos rfl, if_pos (by omega), e2, e3]
 rfl
theorem reb_self {b high : List Int} (hb : rubOk b high.length = true) (hhi : rosOk high = true) :
  (rebE high high b = 0 ∧ groundL high b = high) ∨ (rebE high high b = 6 ∧ rebN high high b < high.length ∧ (∀ (h1 : rebN high high b < (groundL high b).length) (h2 : rebN high high b < high.length), (groundL high b)[rebN high high b] < high[rebN high high b]) ∧ (groundL high b).take (rebN high high b) = high.take (rebN high high b)) := by
 obtain ⟨k1, k2, k3, k4, k5⟩ := rubOk_iff.1 hb
 have hb0 : 0 < b.length := by omega
 have hgl := groundL_length high b
 have hle : ∀ p (h : p < high.length), (groundL high b)[p]'(by omega) ≤ high[p] := fun p h => ground_le hb0 h
 have e1 : bothE high b = 0 := by unfold bothE; rw [hhi, if_pos rfl, hb]; rfl
 have e2 : fstLt high high high.length = none := fstLt_none fun i hi => Int.le_refl _
 have hE : rebE high high b = if (fstLt (groundL high b) high high.length).isSome then 6 else 0 := by
  unfold rebE
  rw [hhi, if_pos rfl, e1, if_pos rfl, if_pos rfl, e2]
  rfl
 cases e : fstLt (groundL high b) high high.length with
 | none =>
  left
  refine ⟨by rw [hE, e]; rfl, ?_⟩
  apply List.ext_getElem hgl
  intro i g1 g2
  have h9 := hle i g2
  unfold fstLt at e
  rw [List.find?_eq_none] at e
  have := e i (List.mem_range.2 g2)
  simp only [decide_eq_true_eq, List.getD_eq_getElem?_getD, List.getElem?_eq_getElem g1, List.getElem?_eq_getElem g2, Option.getD_some] at this
  omega
 | some m =>
  right
  have hE6 : rebE high high b = 6 := by rw [hE, e]; rfl
  have hN : rebN high high b = m := by unfold rebN; rw [hE6, if_pos rfl, e]; rfl
  have hm := e
  unfold fstLt at hm
  have hm1 := List.mem_range.1 (List.mem_of_find?_eq_some hm)
  have hm2 := List.find?_some hm
  simp only [decide_eq_true_eq, List.getD_eq_getElem?_getD, List.getElem?_eq_getElem hm1, List.getElem?_eq_getElem (show m < (groundL high b).length by omega), Option.getD_some] at hm2
  rw [hN]
  refine ⟨hE6, hm1, fun h1 h2 => hm2, ?_⟩
  apply List.ext_getElem (by simp [hgl])
  intro i g1 g2
  have him : i < m := by simp at g1; omega
  rw [List.getElem_take, List.getElem_take]
  have h9 := hle i (by omega)
  rcases Int.lt_or_eq_of_le h9 with h | h
  ·exfalso
   have hfind : ∀ (n : Nat), (List.range n).find? (fun k => decide ((groundL high b).getD k 0 < high.getD k 0)) = some m → i < m → False := fun n hn him => by
    rw [List.find?_eq_some_iff_append] at hn
    obtain ⟨-, us, vs, heq, hall⟩ := hn
    have hlen : us.length = m := by
     have h3 : (List.range n)[us.length]? = some m := by rw [heq]; simp
     have h4 := (List.getElem?_eq_some_iff.1 h3)
     obtain ⟨h5, h6⟩ := h4
     simpa using h6
    have hi : i ∈ us := by
     have h3 : (List.range n)[i]? = us[i]? := by rw [heq, List.getElem?_append_left (by omega)]
     have h5 : i < n := by
      have : us.length < (List.range n).length := by rw [heq]; simp
      simp at this
      omega
     rw [List.getElem?_range h5] at h3
     exact List.mem_of_getElem? h3.symm
    have := hall i hi
    simp only [Bool.not_eq_true', decide_eq_false_iff_not, List.getD_eq_getElem?_getD, List.getElem?_eq_getElem (show i < (groundL high b).length by omega), List.getElem?_eq_getElem (show i < high.length by omega), Option.getD_some] at this
    exact this h
   exact hfind _ hm him
  ·exact h
end Go.Proofs.YtphdalgaemefoaaGreat
