/- Contracts of package rosette (layer 3): Check, CheckRubber and their kin. -/
import Derived.Test.YtkblockodaiigaaStd
import Derived.Laws.BitsAllLaws
import Derived.Laws.BitsLemmas
namespace Go.Proofs.Ytkblockodaiigaa
set_option maxRecDepth 100000
set_option maxHeartbeats 2000000
open Go.RowKit
set_option linter.unusedVariables false
set_option linter.unusedSimpArgs false

def heightB (x : Int) : Bool := within x 0 10000
def rosOk (f : List Int) : Bool := decide (3 ≤ f.length) && (decide (f.length ≤ 96) && f.all heightB)
def rubOk (b : List Int) (n : Int) : Bool := decide (b.length % 2 = 1) && (decide ((b.length : Int) ≤ n) && (decide (b.length ≤ 31) && (b.all heightB && decide (b.getD (b.length / 2) 0 ≤ 0))))
theorem all_any (zs : List Int) (p : Int → Bool) : zs.any (fun x => !p x) = !zs.all p := by
 induction zs with
 | nil => rfl
 | cons x r ih => simp only [List.any_cons, List.all_cons, ih, Bool.not_and]

theorem pf_ros_odd (n : Int) (w : World) : Calls Try.prog 93 #[.int .i64 n] w fun e w' => e = .returned (.bool (!heightB n)) ∧ w = w' := by
 unfold heightB
 by_cases h1 : n < 0
 ·have h2 : within n 0 10000 = false := within_not.2 (by omega)
  rw [h2]
  go_enter Try.func93, Try.ntmps93
  go_wp2
  go_ret
  simp [h1]
 ·by_cases h3 : n ≤ 10000
  ·have h2 : within n 0 10000 = true := within_iff.2 (by omega)
   rw [h2]
   go_enter Try.func93, Try.ntmps93
   go_wp2
   go_ret
   simp [h1, h3]
  ·have h2 : within n 0 10000 = false := within_not.2 (by omega)
   rw [h2]
   have h4 : 10000 < n := by omega
   go_enter Try.func93, Try.ntmps93
   go_wp2
   go_ret
   simp [h4]
theorem pf_ros_odd' (n : Int) (w : World) : Calls Try.prog 93 (#[.int .i64 n] ++ #[]) w fun e w' => e = .returned (.bool (!heightB n)) ∧ w = w' := by
 rw [Array.append_empty]; exact pf_ros_odd n w
theorem plain_ros_odd : Plain Try.prog 93 := fun _ _ => by kernel_rfl
theorem pf_ros_any (v : Value) (zs : List Int) (w : World) (hv : Ints w v zs) :
  Calls Try.prog 92 #[v, .func (.func 93) #[] #[]] w fun e w' => e = .returned (.bool (!zs.all heightB)) ∧ w = w' := by
 have h := pf_ContainsFunc (fun x => !heightB x) 93 #[] v zs w hv plain_ros_odd (fun x _ => pf_ros_odd' x _)
 rw [all_any] at h
 exact h
theorem pf_ros_Check (v : Value) (f : List Int) (w : World) (hv : Ints w v f) (B : Bool) (hB : rosOk f = B) :
  Calls Try.prog 64 #[v] w fun e w' => e = .returned (.int .i64 (if B then 0 else 30)) ∧ w = w' := by
 have hv0 := Lib.hid hv
 obtain ⟨A, c, rfl, hlc, hcm, _, hr⟩ := hv
 unfold maxLen at hcm
 clear hr
 unfold rosOk at hB
 by_cases h1 : 3 ≤ f.length
 ·rw [decide_eq_true h1, Bool.true_and] at hB
  by_cases h2 : f.length ≤ 96
  ·rw [decide_eq_true h2, Bool.true_and] at hB
   have hB' := hyd1 hB
   clear hB
   have e1 : ((f.length : Int) < 3) = False := by simp; omega
   have e2 : ((96 : Int) < (f.length : Int)) = False := by simp; omega
   clear h1 h2
   cases B
   all_goals
    go_enter Try.func64, Try.ntmps64
    go_wp2_with (first | (go_at_call 92; refine (pf_ros_any _ f _ hv0.out).mono ?_; rintro e w' ⟨rfl, rfl⟩; rw [hB'.out]))
    go_ret
    exact ⟨rfl, rfl⟩
  ·rw [decide_eq_false h2, Bool.false_and] at hB
   subst hB
   go_enter Try.func64, Try.ntmps64
   go_wp2
   go_ret
   exact ⟨rfl, rfl⟩
 ·rw [decide_eq_false h1, Bool.false_and] at hB
  subst hB
  go_enter Try.func64, Try.ntmps64
  go_wp2
  go_ret
  exact ⟨rfl, rfl⟩
theorem and_one (n : Nat) (h : n < 9223372036854775808) : bits .and .i64 (n : Int) 1 = ((n % 2 : Nat) : Int) := by
 have e : (BitVec.ofInt 64 (n : Int)).toNat = n := by rw [BitVec.ofInt_natCast, BitVec.toNat_ofNat]; exact Nat.mod_eq_of_lt (by omega)
 show IntKind.i64.wrap ((BitVec.ofInt 64 (n : Int) &&& BitVec.ofInt 64 (1 : Int)).toNat : Int) = _
 rw [BitVec.toNat_and, e]
 have e1 : (BitVec.ofInt 64 (1 : Int)).toNat = 1 := by decide
 rw [e1, Nat.and_one_is_mod, IntKind.wrap_i64]
 omega
theorem pf_ros_CheckRubber (v : Value) (b : List Int) (n : Int) (w : World) (hv : Ints w v b) (B : Bool) (hB : rubOk b n = B) :
  Calls Try.prog 84 #[v, .int .i64 n] w fun e w' => e = .returned (.int .i64 (if B then 0 else 31)) ∧ w = w' := by
 have hv0 := Lib.hid hv
 obtain ⟨A, c, rfl, hlc, hcm, _, hr⟩ := hv
 unfold maxLen at hcm
 unfold rubOk at hB
 have hand := and_one b.length (by omega)
 by_cases h1 : b.length % 2 = 1
 ·rw [decide_eq_true h1, Bool.true_and] at hB
  rw [h1] at hand
  have h1' := hyd1 h1
  clear h1
  by_cases h2 : (b.length : Int) ≤ n
  ·rw [decide_eq_true h2, Bool.true_and] at hB
   by_cases h3 : b.length ≤ 31
   ·rw [decide_eq_true h3, Bool.true_and] at hB
    obtain ⟨H, hH⟩ : ∃ H, H = b.all heightB := ⟨_, rfl⟩
    rw [← hH] at hB
    have hH' := hyd1 hH
    clear hH
    cases H with
    | false =>
     rw [Bool.false_and] at hB
     subst hB
     clear hr
     go_enter Try.func84, Try.ntmps84
     go_wp2_with (first | (go_at_call 92; refine (pf_ros_any _ b _ hv0.out).mono ?_; rintro e w' ⟨rfl, rfl⟩; rw [← hH'.out]))
     go_ret
     exact ⟨rfl, rfl⟩
    | true =>
     rw [Bool.true_and] at hB
     have hpos : 0 < b.length := by have := h1'.out; omega
     obtain ⟨bb, off, rfl, hbb, hc⟩ := hr hpos
     have hk : b.length / 2 < b.length := by omega
     have hck : w.cell? ⟨bb, off + b.length / 2, none⟩ = some (.int .i64 b[b.length / 2]) := hc _ hk
     have hg : b.getD (b.length / 2) 0 = b[b.length / 2] := by simp [hk]
     rw [hg] at hB
     generalize b[b.length / 2] = x at hck hB
     clear hc hr hg
     by_cases h4 : x ≤ 0
     ·rw [decide_eq_true h4] at hB
      subst hB
      go_enter Try.func84, Try.ntmps84
      go_wp2_with (first | (go_at_call 92; refine (pf_ros_any _ b _ hv0.out).mono ?_; rintro e w' ⟨rfl, rfl⟩; rw [← hH'.out]))
      go_ret
      exact ⟨rfl, rfl⟩
     ·rw [decide_eq_false h4] at hB
      subst hB
      have h4' : 0 < x := by omega
      go_enter Try.func84, Try.ntmps84
      go_wp2_with (first | (go_at_call 92; refine (pf_ros_any _ b _ hv0.out).mono ?_; rintro e w' ⟨rfl, rfl⟩; rw [← hH'.out]))
      go_ret
      exact ⟨rfl, rfl⟩
   ·rw [decide_eq_false h3, Bool.false_and] at hB
    subst hB
    clear hr
    go_enter Try.func84, Try.ntmps84
    go_wp2
    go_ret
    exact ⟨rfl, rfl⟩
  ·rw [decide_eq_false h2, Bool.false_and] at hB
   subst hB
   clear hr
   go_enter Try.func84, Try.ntmps84
   go_wp2
   go_ret
   exact ⟨rfl, rfl⟩
 ·rw [decide_eq_false h1, Bool.false_and] at hB
  subst hB
  have h0 : b.length % 2 = 0 := by omega
  rw [h0] at hand
  clear hr h1 h0
  go_enter Try.func84, Try.ntmps84
  go_wp2
  go_ret
  exact ⟨rfl, rfl⟩
end Go.Proofs.Ytkblockodaiigaa
