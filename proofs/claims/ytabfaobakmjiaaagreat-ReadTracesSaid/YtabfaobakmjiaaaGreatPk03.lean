/- Contracts of the functions of package slices at []int that the program uses. More of package slices at []int: Grow, Concat, Equal. Numbers counted around: the .. -/
import Derived.Test.YtabfaobakmjiaaaGreatPk01
import Derived.Lib.AppendZeros
namespace Go.Proofs.YtabfaobakmjiaaaGreat
set_option maxRecDepth 100000
set_option maxHeartbeats 1000000
open Go.RowKit

def idx {α : Type} (p : α → Bool) (zs : List α) : Int := match zs.findIdx? p with | some k => k | none => -1
theorem qLj {α : Type} (p : α → Bool) (zs : List α) (k : Nat) (h : k < zs.length) (hp : p zs[k] = true) (hn : ∀ j (h : j < zs.length), j < k → p zs[j] = false) : (k : Int) = idx p zs := by
 have : zs.findIdx? p = some k := by
  rw [List.findIdx?_eq_some_iff_getElem];exact ⟨h, hp, fun j hj => by have := hn j (by omega) hj; simp [this]⟩
 unfold idx; rw [this]
theorem qLI {α : Type} (p : α → Bool) (zs : List α) (hn : ∀ j (h : j < zs.length), p zs[j] = false) : (-1 : Int) = idx p zs := by
 have : zs.findIdx? p = none := by
  rw [List.findIdx?_eq_none_iff];intro x hx;obtain ⟨j, hj, rfl⟩ := List.mem_iff_getElem.1 hx;exact hn j hj
 unfold idx; rw [this]
theorem qLk {α : Type} (p : α → Bool) (zs : List α) : decide (0 ≤ idx p zs) = zs.any p := by
 unfold idx
 cases h : zs.findIdx? p with
 | none =>
  rw [List.findIdx?_eq_none_iff] at h;have : zs.any p = false := by simp only [List.any_eq_false]; intro x hx; simp [h x hx]
  simp [this]
 | some k =>
  rw [List.findIdx?_eq_some_iff_getElem] at h;obtain ⟨hk, hp, _⟩ := h;have : zs.any p = true := List.any_eq_true.2 ⟨_, List.getElem_mem hk, hp⟩;simp [this]

set_option linter.unusedVariables false
set_option linter.unusedSimpArgs false
theorem qGI (p n : Int) (hn : 0 < n) : -n < p.tmod n ∧ p.tmod n < n ∧ (p.tmod n < 0 → p.tmod n + n = p % n) ∧ (0 ≤ p.tmod n → p.tmod n = p % n) := by
 have h1 := Int.tmod_lt_of_pos p hn
 have h2 : -n < p.tmod n := by
  have := Int.tmod_lt_of_pos (-p) hn;rw [Int.neg_tmod] at this; omega
 have h3 := Int.mul_tdiv_add_tmod p n;refine ⟨h2, h1, fun h => ?_, fun h => ?_⟩
 ·have e : p = (p.tmod n + n) + n * (p.tdiv n - 1) := by rw [Int.mul_sub]; omega
  conv => rhs; rw [e, Int.add_mul_emod_self_left]
  rw [Int.emod_eq_of_lt (by omega) (by omega)]
 ·have e : p = p.tmod n + n * p.tdiv n := by omega
  conv => rhs; rw [e, Int.add_mul_emod_self_left]
  rw [Int.emod_eq_of_lt (by omega) (by omega)]
def Mid (p : Int) : Prop := -1000000000000000 ≤ p ∧ p ≤ 1000000000000000
theorem qLz (p n : Int) (w : World) (hn : 0 < n) (hn2 : n ≤ 1000000000) (hp : Mid p) :
  Calls Tryz.prog 128 #[.int .i64 p, .int .i64 n] w fun e w' => e = .returned (.int .i64 (p % n)) ∧ w = w' := by
 obtain ⟨hp1, hp2⟩ := hp;obtain ⟨f1, f2, f3, f4⟩ := qGI p n hn
 by_cases h0 : 0 ≤ p
 ·have h5 := Int.emod_lt_of_pos p hn;have h6 := Int.emod_nonneg p (show n ≠ 0 by omega);clear f1 f2 f3 f4;go_enter Tryz.func128, Tryz.ntmps128;go_wp2;go_ret;exact ⟨rfl, rfl⟩
 ·by_cases h1 : p.tmod n < 0
  ·have h2 := Lib.hid (f3 h1);clear f3 f4;go_enter Tryz.func128, Tryz.ntmps128;go_wp2;go_ret;exact ⟨qBx h2.out, rfl⟩
  ·have h2 := Lib.hid (f4 (by omega));clear f3 f4;go_enter Tryz.func128, Tryz.ntmps128;go_wp2;go_ret;exact ⟨qBx h2.out, rfl⟩
theorem qIK (p n : Int) (w : World) (hn : 0 < n) (hn2 : n ≤ 1000000000) (hp : Mid p) :
  Calls Tryz.prog 68 #[.int .i64 p, .int .i64 n] w fun e w' => e = .returned (.int .i64 (p % n)) ∧ w = w' := by
 obtain ⟨hp1, hp2⟩ := hp;obtain ⟨f1, f2, f3, f4⟩ := qGI p n hn
 by_cases h0 : 0 ≤ p
 ·have h5 := Int.emod_lt_of_pos p hn;have h6 := Int.emod_nonneg p (show n ≠ 0 by omega);have h7 : (p % n + n) % n = p % n := by rw [Int.add_emod_right]; exact Int.emod_eq_of_lt h6 h5
  have h7' := hyd1 h7;clear f1 f2 f3 f4 h7;go_enter Tryz.func68, Tryz.ntmps68;go_wp2;go_ret;exact ⟨qBx h7'.out, rfl⟩
 ·have h7 : (p.tmod n + n) % n = p % n := by
   by_cases h1 : p.tmod n < 0
   ·rw [f3 h1]; exact Int.emod_emod_of_dvd _ (Int.dvd_refl n)
   ·rw [f4 (by omega), Int.add_emod_right]; exact Int.emod_emod_of_dvd _ (Int.dvd_refl n)
  have h8 : p.tmod n % n = p % n := by rw [Int.add_emod_right] at h7; exact h7
  have h7' := hyd1 h8;clear f3 f4 h7 h8;go_enter Tryz.func68, Tryz.ntmps68;go_wp2;go_ret;exact ⟨qBx h7'.out, rfl⟩
end Go.Proofs.YtabfaobakmjiaaaGreat
