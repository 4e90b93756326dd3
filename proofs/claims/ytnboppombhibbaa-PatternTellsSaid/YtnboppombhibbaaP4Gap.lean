/- The gap: slices.Min, the reference's Gap. -/
import Derived.Test.YtnboppombhibbaaP4Tells
namespace Go.Proofs.Ytnboppombhibbaa
open Go.RowKit
set_option linter.unusedVariables false
set_option linter.unusedSimpArgs false
/-- The row of gaps at one shift: the first k steps. -/
def gapRow (p : Prog) (s : Int) (k : Nat) : List Int := (List.range k).map fun (a : Nat) => p.adv + p.throw * (atR (liftL p.ros p.rub) ((a : Int) - s) - atR (liftL p.ros p.rub) a)
def gapPre (p : Prog) (k : Nat) : List Int := (p.shifts.take k).flatMap fun s => gapRow p s p.ros.length
def minL (a : Int) (l : List Int) : Int := l.foldl (fun x y => min x y) a
def gapI (p : Prog) : Int := minL 1099511627776 (gapPre p p.shifts.length)
theorem gapRow_succ (p : Prog) (s : Int) (k : Nat) : gapRow p s (k + 1) = gapRow p s k ++ [p.adv + p.throw * (atR (liftL p.ros p.rub) ((k : Int) - s) - atR (liftL p.ros p.rub) k)] := by
  unfold gapRow; rw [List.range_succ]; simp
theorem gapRow_length (p : Prog) (s : Int) (k : Nat) : (gapRow p s k).length = k := by simp [gapRow]
theorem gapPre_succ (p : Prog) (k : Nat) (h : k < p.shifts.length) : gapPre p (k + 1) = gapPre p k ++ gapRow p p.shifts[k] p.ros.length := by
  unfold gapPre; rw [List.take_succ_eq_append_getElem h, List.flatMap_append]; simp
theorem gapPre_length (p : Prog) (k : Nat) (h : k ≤ p.shifts.length) : (gapPre p k).length = k * p.ros.length := by
  induction k with
  | zero => simp [gapPre]
  | succ k ih => rw [gapPre_succ p k (by omega), List.length_append, ih (by omega), gapRow_length, Nat.succ_mul]
theorem minL_append (a : Int) (l m : List Int) : minL a (l ++ m) = minL (minL a l) m := by simp [minL]
theorem minL_snoc (a : Int) (l : List Int) (x : Int) : minL a (l ++ [x]) = min (minL a l) x := by simp [minL]
theorem minL_cons (a x : Int) (l : List Int) : minL a (x :: l) = minL (min a x) l := rfl
theorem minL_bound (a : Int) (l : List Int) (lo hi : Int) (ha : lo ≤ a ∧ a ≤ hi) (h : ∀ x ∈ l, lo ≤ x ∧ x ≤ hi) : lo ≤ minL a l ∧ minL a l ≤ hi := by
  induction l generalizing a with
  | nil => exact ha
  | cons x l ih =>
    rw [minL_cons]
    exact ih _ (by have := h x (by simp); omega) fun y hy => h y (by simp [hy])
theorem mul_diff (t x y : Int) (ht : 1 ≤ t ∧ t ≤ 16) (hx : 0 ≤ x ∧ x ≤ 10000) (hy : 0 ≤ y ∧ y ≤ 10000) : -160000 ≤ t * (x - y) ∧ t * (x - y) ≤ 160000 := by
  have h1 := mul_small x t hx ht
  have h2 := mul_small y t hy ht
  have : t * (x - y) = x * t - y * t := by rw [Int.mul_sub, Int.mul_comm, Int.mul_comm t y]
  omega
theorem gap_bound {p : Prog} (hp : BenchFacts p) : ∀ x ∈ gapPre p p.shifts.length, -200000 ≤ x ∧ x ≤ 200000 := by
  intro x hx
  unfold gapPre at hx
  rw [List.mem_flatMap] at hx
  obtain ⟨s, _, hx⟩ := hx
  unfold gapRow at hx
  rw [List.mem_map] at hx
  obtain ⟨a, _, rfl⟩ := hx
  have hl := lift_ok hp.ros hp.rub
  have h1 := mul_diff p.throw _ _ hp.throw (atR_height hl ((a : Int) - s)) (atR_height hl a)
  have h2 := hp.adv
  omega
set_option maxHeartbeats 1000000 in
theorem pf_Min (v : Value) (x : Int) (xs : List Int) (w : World) (hv : Ints w v (x :: xs)) :
    Calls Try.prog 74 #[v] w fun e w' => e = .returned (.int .i64 (minL x xs)) ∧ w = w' := by
  have hv0 := Lib.hid hv
  obtain ⟨A, c, rfl, hlc, hcm, _, hr⟩ := hv
  unfold maxLen at hcm
  obtain ⟨b, off, rfl, hb, hc⟩ := hr (by simp)
  have hc0 : w.cell? ⟨b, off, none⟩ = some (.int .i64 x) := hc 0 (by simp)
  have hcs : ∀ k (h : k < xs.length), w.cell? ⟨b, off + (k + 1), none⟩ = some (.int .i64 xs[k]) := fun k h => hc (k + 1) (Nat.succ_lt_succ h)
  have hN : (x :: xs).length = xs.length + 1 := rfl
  rw [hN] at hlc ⊢
  have i1 : (0 : Int) < ((xs.length + 1 : Nat) : Int) := by omega
  have i2 : ¬ (((xs.length + 1 : Nat) : Int) < 1) := by omega
  have hcs' := Lib.hid hcs
  have hc' := Lib.hid hc
  have hr' := Lib.hid hr
  have hN' := Lib.hid hN
  clear hN hr hc hcs
  go_enter Try.func74, Try.ntmps74
  go_wp2
  go_loop [4, 3] (fun i m => ∃ k : Nat, k ≤ xs.length ∧ i = .int .i64 ((k + 1 : Nat) : Int) ∧ m = .int .i64 (minL x (xs.take k))) (fun i _ => xs.length + 1 - (intOf i).toNat)
  case atStart => exact ⟨0, Nat.zero_le _, rfl, by simp [minL]⟩
  case round =>
    obtain ⟨k, hk, rfl, rfl⟩ := hrel
    by_cases hlt : k < xs.length
    · have hck := hcs'.out k hlt
      have hsuc : minL x (xs.take (k + 1)) = min (minL x (xs.take k)) xs[k] := by rw [List.take_succ_eq_append_getElem hlt, minL_snoc]
      generalize xs[k] = y at hck hsuc
      generalize minL x (xs.take k) = m at hsuc
      have hsuc' := Lib.hid hsuc
      clear hsuc
      have i3 : ((k + 1 : Nat) : Int) < ((xs.length + 1 : Nat) : Int) := by omega
      have i4 : (0 : Int) ≤ ((k + 1 : Nat) : Int) := by omega
      go_wp2
      go_round
      case rel => exact ⟨k + 1, by omega, by go_num, by rw [hsuc'.out]; show Value.int _ _ = _; congr 1; first | rfl | (split <;> omega) | omega⟩
      case measure => simp [intOf]; omega
    · obtain rfl : k = xs.length := by omega
      rw [List.take_of_length_le (Nat.le_refl _)]
      go_wp2
      go_ret
      exact ⟨rfl, rfl⟩
end Go.Proofs.Ytnboppombhibbaa
