/- The reference of layer 3: SameInts, heights, Check, CheckRubber, Great. -/
import Derived.Test.YtphdalgaemefoaaGreatBase
import Derived.Test.YtphdalgaemefoaaGreatRos2
import Derived.Test.YtphdalgaemefoaaGreatStd
import Derived.Test.YtphdalgaemefoaaGreatBoxKit
namespace Go.Proofs.YtphdalgaemefoaaGreat
set_option maxRecDepth 100000
open Go.RowKit
set_option linter.unusedVariables false
set_option linter.unusedSimpArgs false
theorem pf_r3_heights (v : Value) (xs : List Int) (w : World) (hx : Ints w v xs) :
  Calls Tryz.prog 64 #[v] w fun e w' => e = .returned (.bool (xs.all heightB)) ∧ w = w' := by
 obtain ⟨A, c, rfl, hlc, hcm, _, hr⟩ := hx
 unfold maxLen at hcm
 have hr' := hyd1 hr
 clear hr
 go_enter Tryz.func64, Tryz.ntmps64
 go_wp2
 go_loop [3] (fun i => ∃ k : Nat, k ≤ xs.length ∧ i = .int .i64 k ∧ Hid (∀ j (h : j < xs.length), j < k → heightB xs[j] = true)) (fun i => xs.length - (intOf i).toNat)
 case atStart => exact ⟨0, Nat.zero_le _, rfl, fun j _ h => absurd h (by omega)⟩
 case round =>
  obtain ⟨k, hk, rfl, hp⟩ := hrel
  by_cases hlt : k < xs.length
  ·obtain ⟨b, off, rfl, hb, hc⟩ := hr'.out (by omega)
   have hck := hc k hlt
   have hmem := List.getElem_mem hlt
   generalize hx : xs[k] = x at hck hmem
   have hx' := hyd1 hx
   clear hc hx
   obtain ⟨B, hB⟩ : ∃ B, within x 0 10000 = B := ⟨_, rfl⟩
   have hB' := hyd1 hB
   clear hB
   cases B with
   | true =>
    go_wp2_with (first | (go_at_call 63; refine (pf_within_barleycornref03 _ _ _ _).mono ?_; rintro e w' ⟨rfl, rfl⟩; rw [hB'.out]))
    go_round
    case rel => exact ⟨k + 1, by omega, by go_num, fun j h hj => by
     by_cases hjk : j = k
     ·subst hjk; rw [hx'.out]; exact hB'.out
     ·exact hp.out j h (by omega)⟩
    case measure => simp [intOf]; omega
   | false =>
    have he : xs.all heightB = false := List.all_eq_false.2 ⟨x, hmem, by unfold heightB; rw [hB'.out]; decide⟩
    have he' := hyd1 he
    clear he
    go_wp2_with (first | (go_at_call 63; refine (pf_within_barleycornref03 _ _ _ _).mono ?_; rintro e w' ⟨rfl, rfl⟩; rw [hB'.out]))
    go_ret
    exact ⟨ret_bool (by rw [he'.out]), rfl⟩
  ·have he : xs.all heightB = true := List.all_eq_true.2 fun x hx => by
    obtain ⟨j, hj, rfl⟩ := List.mem_iff_getElem.1 hx
    exact hp.out j hj (by omega)
   have he' := hyd1 he
   clear he
   go_wp2
   go_ret
   exact ⟨ret_bool (by rw [he'.out]), rfl⟩
theorem pf_r3_Check (v : Value) (f : List Int) (w : World) (hv : Ints w v f) (B : Bool) (hB : rosOk f = B) :
  Calls Tryz.prog 42 #[v] w fun e w' => e = .returned (.int .i64 (if B then 0 else 30)) ∧ w = w' := by
 have hv0 := Lib.hid hv
 obtain ⟨A, c, rfl, hlc, hcm, _, hr⟩ := hv
 unfold maxLen at hcm
 clear hr
 have hB2 : (within (f.length : Int) 3 96 && f.all heightB) = B := by
  rw [← hB, Bool.eq_iff_iff]
  unfold rosOk
  simp only [Bool.and_eq_true, within_iff, decide_eq_true_eq]
  exact ⟨fun ⟨h1, h2⟩ => ⟨by omega, by omega, h2⟩, fun ⟨h1, h2, h3⟩ => ⟨by omega, h3⟩⟩
 clear hB
 obtain ⟨X, hX⟩ : ∃ X, within (f.length : Int) 3 96 = X := ⟨_, rfl⟩
 obtain ⟨Y, hY⟩ : ∃ Y, f.all heightB = Y := ⟨_, rfl⟩
 rw [hX, hY] at hB2
 have ⟨hX', hY'⟩ := hyd2 hX hY
 clear hX hY
 cases X with
 | false =>
  obtain rfl : false = B := hB2
  go_enter Tryz.func42, Tryz.ntmps42
  go_wp2_with (first | (go_at_call 63; refine (pf_within_barleycornref03 _ _ _ _).mono ?_; rintro e w' ⟨rfl, rfl⟩; rw [hX'.out]))
  go_ret
  exact ⟨rfl, rfl⟩
 | true =>
  obtain rfl : Y = B := hB2
  cases Y
  all_goals
   go_enter Tryz.func42, Tryz.ntmps42
   go_wp2_with (first | (go_at_call 63; refine (pf_within_barleycornref03 _ _ _ _).mono ?_; rintro e w' ⟨rfl, rfl⟩; rw [hX'.out]) | (go_at_call 64; refine (pf_r3_heights _ f _ hv0.out).mono ?_; rintro e w' ⟨rfl, rfl⟩; rw [hY'.out]))
   go_ret
   exact ⟨rfl, rfl⟩
theorem pf_r3_CheckRubber (v : Value) (b : List Int) (n : Int) (w : World) (hv : Ints w v b) (B : Bool) (hB : rubOk b n = B) :
  Calls Tryz.prog 43 #[v, .int .i64 n] w fun e w' => e = .returned (.int .i64 (if B then 0 else 31)) ∧ w = w' := by
 have hv0 := Lib.hid hv
 obtain ⟨A, c, rfl, hlc, hcm, _, hr⟩ := hv
 unfold maxLen at hcm
 unfold rubOk at hB
 by_cases h1 : b.length % 2 = 1
 ·rw [decide_eq_true h1, Bool.true_and] at hB
  have htm : (b.length : Int).tmod 2 = 1 := by rw [Int.tmod_eq_emod_of_nonneg (by omega)]; omega
  have h1' := hyd1 h1
  clear h1
  by_cases h2 : (b.length : Int) ≤ n
  ·rw [decide_eq_true h2, Bool.true_and] at hB
   by_cases h3 : b.length ≤ 31
   ·rw [decide_eq_true h3, Bool.true_and] at hB
    have hmin : ¬ min (31 : Int) n < (b.length : Int) := by omega
    obtain ⟨H, hH⟩ : ∃ H, H = b.all heightB := ⟨_, rfl⟩
    rw [← hH] at hB
    have hH' := hyd1 hH
    cases H with
    | false =>
     rw [Bool.false_and] at hB
     subst hB
     clear hr hH
     go_enter Tryz.func43, Tryz.ntmps43
     go_wp2_with (first | (go_at_call 64; refine (pf_r3_heights _ b _ hv0.out).mono ?_; rintro e w' ⟨rfl, rfl⟩; rw [← hH'.out]))
     all_goals (go_ret; exact ⟨rfl, rfl⟩)
    | true =>
     rw [Bool.true_and] at hB
     have hpos : 0 < b.length := by have := h1'.out; omega
     obtain ⟨bb, off, rfl, hbb, hc⟩ := hr hpos
     have hk : b.length / 2 < b.length := by omega
     have hck : w.cell? ⟨bb, off + b.length / 2, none⟩ = some (.int .i64 b[b.length / 2]) := hc _ hk
     have hg : b.getD (b.length / 2) 0 = b[b.length / 2] := by simp [hk]
     have hx0 : heightB b[b.length / 2] = true := List.all_eq_true.1 hH.symm _ (List.getElem_mem hk)
     have hx1 := (within_iff.1 hx0).1
     rw [hg] at hB
     generalize b[b.length / 2] = x at hck hB hx1
     clear hc hr hg hx0 hH
     by_cases h4 : x ≤ 0
     ·rw [decide_eq_true h4] at hB
      subst hB
      obtain rfl : x = 0 := by omega
      go_enter Tryz.func43, Tryz.ntmps43
      go_wp2_with (first | (go_at_call 64; refine (pf_r3_heights _ b _ hv0.out).mono ?_; rintro e w' ⟨rfl, rfl⟩; rw [← hH'.out]))
      all_goals (go_ret; exact ⟨rfl, rfl⟩)
     ·rw [decide_eq_false h4] at hB
      subst hB
      have h4' : (x != 0) = true := by simp; omega
      go_enter Tryz.func43, Tryz.ntmps43
      go_wp2_with (first | (go_at_call 64; refine (pf_r3_heights _ b _ hv0.out).mono ?_; rintro e w' ⟨rfl, rfl⟩; rw [← hH'.out]))
      all_goals (go_ret; exact ⟨rfl, rfl⟩)
   ·rw [decide_eq_false h3, Bool.false_and] at hB
    subst hB
    have hmin : min (31 : Int) n < (b.length : Int) := by omega
    clear hr
    go_enter Tryz.func43, Tryz.ntmps43
    go_wp2
    all_goals (go_ret; exact ⟨rfl, rfl⟩)
  ·rw [decide_eq_false h2, Bool.false_and] at hB
   subst hB
   have hmin : min (31 : Int) n < (b.length : Int) := by omega
   clear hr
   go_enter Tryz.func43, Tryz.ntmps43
   go_wp2
   all_goals (go_ret; exact ⟨rfl, rfl⟩)
 ·rw [decide_eq_false h1, Bool.false_and] at hB
  subst hB
  have htm : (b.length : Int).tmod 2 = 0 := by rw [Int.tmod_eq_emod_of_nonneg (by omega)]; omega
  clear hr h1
  go_enter Tryz.func43, Tryz.ntmps43
  go_wp2
  all_goals (go_ret; exact ⟨rfl, rfl⟩)
end Go.Proofs.YtphdalgaemefoaaGreat
