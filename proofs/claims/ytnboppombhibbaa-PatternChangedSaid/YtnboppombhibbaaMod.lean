/- Numbers counted around: the three texts of one function. -/
import Derived.Test.YtnboppombhibbaaStd
namespace Go.Proofs.Ytnboppombhibbaa
open Go.RowKit
set_option linter.unusedVariables false
set_option linter.unusedSimpArgs false
theorem tmod_facts (p n : Int) (hn : 0 < n) : -n < p.tmod n ∧ p.tmod n < n ∧ (p.tmod n < 0 → p.tmod n + n = p % n) ∧ (0 ≤ p.tmod n → p.tmod n = p % n) := by
  have h1 := Int.tmod_lt_of_pos p hn
  have h2 : -n < p.tmod n := by
    have := Int.tmod_lt_of_pos (-p) hn
    rw [Int.neg_tmod] at this; omega
  have h3 := Int.mul_tdiv_add_tmod p n
  refine ⟨h2, h1, fun h => ?_, fun h => ?_⟩
  · have e : p = (p.tmod n + n) + n * (p.tdiv n - 1) := by rw [Int.mul_sub]; omega
    conv => rhs; rw [e, Int.add_mul_emod_self_left]
    rw [Int.emod_eq_of_lt (by omega) (by omega)]
  · have e : p = p.tmod n + n * p.tdiv n := by omega
    conv => rhs; rw [e, Int.add_mul_emod_self_left]
    rw [Int.emod_eq_of_lt (by omega) (by omega)]
def Mid (p : Int) : Prop := -1000000000000000 ≤ p ∧ p ≤ 1000000000000000
theorem pf_ros_around (p n : Int) (w : World) (hn : 0 < n) (hn2 : n ≤ 1000000000) (hp : Mid p) :
    Calls Try.prog 106 #[.int .i64 p, .int .i64 n] w fun e w' => e = .returned (.int .i64 (p % n)) ∧ w = w' := by
  obtain ⟨hp1, hp2⟩ := hp
  obtain ⟨f1, f2, f3, f4⟩ := tmod_facts p n hn
  by_cases h0 : 0 ≤ p
  · have h5 := Int.emod_lt_of_pos p hn
    have h6 := Int.emod_nonneg p (show n ≠ 0 by omega)
    clear f1 f2 f3 f4
    go_enter Try.func106, Try.ntmps106
    go_wp2
    go_ret
    exact ⟨rfl, rfl⟩
  · by_cases h1 : p.tmod n < 0
    · have h2 := Lib.hid (f3 h1)
      clear f3 f4
      go_enter Try.func106, Try.ntmps106
      go_wp2
      go_ret
      exact ⟨ret_int h2.out, rfl⟩
    · have h2 := Lib.hid (f4 (by omega))
      clear f3 f4
      go_enter Try.func106, Try.ntmps106
      go_wp2
      go_ret
      exact ⟨ret_int h2.out, rfl⟩
theorem pf_pat_modulo (p n : Int) (w : World) (hn : 0 < n) (hn2 : n ≤ 1000000000) (hp : Mid p) :
    Calls Try.prog 57 #[.int .i64 p, .int .i64 n] w fun e w' => e = .returned (.int .i64 (p % n)) ∧ w = w' := by
  obtain ⟨hp1, hp2⟩ := hp
  obtain ⟨f1, f2, f3, f4⟩ := tmod_facts p n hn
  by_cases h0 : 0 ≤ p
  · have h5 := Int.emod_lt_of_pos p hn
    have h6 := Int.emod_nonneg p (show n ≠ 0 by omega)
    clear f1 f2 f3 f4
    go_enter Try.func57, Try.ntmps57
    go_wp2
    go_ret
    exact ⟨rfl, rfl⟩
  · by_cases h1 : p.tmod n < 0
    · have h2 := Lib.hid (f3 h1)
      clear f3 f4
      go_enter Try.func57, Try.ntmps57
      go_wp2
      go_ret
      exact ⟨ret_int h2.out, rfl⟩
    · have h2 := Lib.hid (f4 (by omega))
      clear f3 f4
      go_enter Try.func57, Try.ntmps57
      go_wp2
      go_ret
      exact ⟨ret_int h2.out, rfl⟩
theorem pf_r3_Around (p n : Int) (w : World) (hn : 0 < n) (hn2 : n ≤ 1000000000) (hp : Mid p) :
    Calls Try.prog 71 #[.int .i64 p, .int .i64 n] w fun e w' => e = .returned (.int .i64 (p % n)) ∧ w = w' := by
  obtain ⟨hp1, hp2⟩ := hp
  obtain ⟨f1, f2, f3, f4⟩ := tmod_facts p n hn
  by_cases h0 : 0 ≤ p
  · have h5 := Int.emod_lt_of_pos p hn
    have h6 := Int.emod_nonneg p (show n ≠ 0 by omega)
    have h7 : (p % n + n) % n = p % n := by rw [Int.add_emod_right]; exact Int.emod_eq_of_lt h6 h5
    have h7' := Lib.hid h7
    clear f1 f2 f3 f4 h7
    go_enter Try.func71, Try.ntmps71
    go_wp2
    go_ret
    exact ⟨ret_int h7'.out, rfl⟩
  · have h7 : (p.tmod n + n) % n = p % n := by
      by_cases h1 : p.tmod n < 0
      · rw [f3 h1]; exact Int.emod_emod_of_dvd _ (Int.dvd_refl n)
      · rw [f4 (by omega), Int.add_emod_right]; exact Int.emod_emod_of_dvd _ (Int.dvd_refl n)
    have h8 : p.tmod n % n = p % n := by rw [Int.add_emod_right] at h7; exact h7
    have h7' := Lib.hid h8
    clear f3 f4 h7 h8
    go_enter Try.func71, Try.ntmps71
    go_wp2
    go_ret
    exact ⟨ret_int h7'.out, rfl⟩
end Go.Proofs.Ytnboppombhibbaa
