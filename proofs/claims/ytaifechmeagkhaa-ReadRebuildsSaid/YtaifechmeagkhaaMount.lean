/- pattern.mounted: a valid program at work. -/
import Derived.Test.YtaifechmeagkhaaPatCheck
import Derived.Test.YtaifechmeagkhaaLiftLaw
import Derived.StillTailTactics
namespace Go.Proofs.Ytaifechmeagkhaa
open Go.RowKit
set_option linter.unusedVariables false
set_option linter.unusedSimpArgs false

theorem Arr.look {α : Type} {f : α → Value} {w : World} {A : Option Addr} {n c : Nat} {xs : List α} (h : Arr f w (.slice A n c) xs) {k : Nat} (hk : k < xs.length) :
    ∃ b off, A = some ⟨b, off, none⟩ ∧ b < w.heap.size ∧ w.cell? ⟨b, off + k, none⟩ = some (f xs[k]) := by
  obtain ⟨A', c', hv, _, _, _, hr⟩ := h
  injection hv with h1 h2 h3
  subst h1
  obtain ⟨b, off, ha, hb, hc⟩ := hr (by omega)
  exact ⟨b, off, ha, hb, hc k hk⟩
def sumTo (s : List Int) (k : Nat) : Int := (s.take k).sum
/-- The cell i of the sums, the first k shifts being done. -/
def sumAt (s : List Int) (k i : Nat) : Int := if i ≤ k then sumTo s i else 0
def benchCells (p : Prog) (v0 v1 v5 vl : Value) (k : Nat) : Array Value :=
  #[v0, v1, .int .i64 p.start, .int .i64 p.throw, .int .i64 p.adv, v5, vl, .int .i64 p.ros.length, .int .i64 p.shifts.length, .int .i64 (periodL (liftL p.ros p.rub)),
    .int .i64 (sumAt p.shifts k 0), .int .i64 (sumAt p.shifts k 1), .int .i64 (sumAt p.shifts k 2), .int .i64 (sumAt p.shifts k 3), .int .i64 (sumAt p.shifts k 4), .int .i64 (sumAt p.shifts k 5), .int .i64 (sumAt p.shifts k 6),
    .int .i64 (sumAt p.shifts k 7), .int .i64 (sumAt p.shifts k 8), .int .i64 (sumAt p.shifts k 9), .int .i64 (sumAt p.shifts k 10), .int .i64 (sumAt p.shifts k 11), .int .i64 (sumAt p.shifts k 12)]
theorem alc_at (w : World) (a : Obj) : (w.alloc a).heap[w.heap.size]? = some a := by unfold World.alloc; exact Array.getElem?_push_size
theorem box_on {w w1 : World} {a : Obj} (h : Below (w.alloc a).heap.size (w.alloc a) w1) : Below w.heap.size w w1 ∧ w.heap.size < w1.heap.size ∧ w1.heap[w.heap.size]? = some a ∧ w.heap.size ≤ w1.heap.size := by
  have hs : w.heap.size < (w.alloc a).heap.size := by simp
  exact ⟨(alc1 _ _).trans (h.mono (Nat.le_of_lt hs)), Nat.lt_of_lt_of_le hs h.size, (h.block _ hs).trans (alc_at _ _), Nat.le_of_lt (Nat.lt_of_lt_of_le hs h.size)⟩
theorem prog_cells {W : World} {B : Nat} {t : TypeId} {v0 v1 v2 v3 v4 v5 : Value} (h : W.heap[B]? = some (.cells #[v0, v1, v2, v3, v4, v5] t)) :
    W.cell? ⟨B, 0, none⟩ = some v0 ∧ W.cell? ⟨B, 1, none⟩ = some v1 ∧ W.cell? ⟨B, 2, none⟩ = some v2 ∧ W.cell? ⟨B, 3, none⟩ = some v3 ∧ W.cell? ⟨B, 4, none⟩ = some v4 ∧ W.cell? ⟨B, 5, none⟩ = some v5 :=
  ⟨cell_of_row W B 0 _ _ _ h, cell_of_row W B 1 _ _ _ h, cell_of_row W B 2 _ _ _ h, cell_of_row W B 3 _ _ _ h, cell_of_row W B 4 _ _ _ h, cell_of_row W B 5 _ _ _ h⟩
theorem progB_iff {p : Prog} : progB p = true ↔ (0 ≤ p.start ∧ p.start ≤ 10000) ∧ (1 ≤ p.throw ∧ p.throw ≤ 16) ∧ (-1000 ≤ p.adv ∧ p.adv ≤ 1000) ∧ (1 ≤ p.shifts.length ∧ p.shifts.length ≤ 12) ∧ ∀ i (h : i < p.shifts.length), 0 ≤ p.shifts[i] ∧ p.shifts[i] < p.ros.length := by
  unfold progB
  simp only [Bool.and_eq_true, within_iff, List.all_eq_true, shiftB]
  constructor
  · rintro ⟨h1, h2, h3, h4, h5⟩
    exact ⟨h1, h2, h3, by omega, fun i h => by have := h5 _ (List.getElem_mem h); omega⟩
  · rintro ⟨h1, h2, h3, h4, h5⟩
    refine ⟨h1, h2, h3, by omega, fun x hx => ?_⟩
    obtain ⟨i, hi, rfl⟩ := List.mem_iff_getElem.1 hx
    have := h5 i hi
    omega
theorem sumTo_succ (s : List Int) (k : Nat) (h : k < s.length) : sumTo s (k + 1) = sumTo s k + s[k] := by
  unfold sumTo; rw [List.take_succ_eq_append_getElem h, List.sum_append]; simp
theorem sumTo_le (s : List Int) (n : Nat) (h : ∀ i (h : i < s.length), 0 ≤ s[i] ∧ s[i] < n) : ∀ k, k ≤ s.length → 0 ≤ sumTo s k ∧ sumTo s k ≤ n * k := by
  intro k
  induction k with
  | zero => intro _; simp [sumTo]
  | succ k ih =>
    intro hk
    have h1 := ih (by omega)
    have h2 := h k (by omega)
    rw [sumTo_succ _ _ (by omega)]
    have : (n : Int) * ((k + 1 : Nat) : Int) = n * k + n := by rw [Int.natCast_add, Int.mul_add]; simp
    omega
theorem sum_small {y : Int} {n k : Nat} (h : 0 ≤ y ∧ y ≤ n * k) (hn : n ≤ 96) (hk : k ≤ 12) : 0 ≤ y ∧ y ≤ 1152 := by
  have h3 : n * k ≤ 96 * 12 := Nat.mul_le_mul hn hk
  have h4 : ((n * k : Nat) : Int) ≤ 1152 := by omega
  rw [Int.natCast_mul] at h4
  exact ⟨h.1, by omega⟩
theorem bench_size (p : Prog) (v0 v1 v5 vl : Value) (k : Nat) : (benchCells p v0 v1 v5 vl k).size = 23 := rfl
theorem bench_at (p : Prog) (v0 v1 v5 vl : Value) (k i : Nat) (h : i < 13) : (benchCells p v0 v1 v5 vl k)[10 + i]? = some (.int .i64 (sumAt p.shifts k i)) := by
  obtain rfl | rfl | rfl | rfl | rfl | rfl | rfl | rfl | rfl | rfl | rfl | rfl | rfl : i = 0 ∨ i = 1 ∨ i = 2 ∨ i = 3 ∨ i = 4 ∨ i = 5 ∨ i = 6 ∨ i = 7 ∨ i = 8 ∨ i = 9 ∨ i = 10 ∨ i = 11 ∨ i = 12 := by omega
  all_goals rfl
theorem bench_sum {W : World} {B : Nat} {t : TypeId} {p : Prog} {v0 v1 v5 vl : Value} {k : Nat} (h : W.heap[B]? = some (.cells (benchCells p v0 v1 v5 vl k) t)) (i : Nat) (hi : i < 13) :
    W.cell? ⟨B, 10 + i, none⟩ = some (.int .i64 (sumAt p.shifts k i)) := (cell_of_row W B _ _ _ _ h).trans (bench_at _ _ _ _ _ _ _ hi)
theorem bench_frozen {W : World} {B : Nat} {cs : Array Value} {t : TypeId} (h : W.heap[B]? = some (.cells cs t)) (i : Nat) : W.frozen? ⟨B, i, none⟩ = false := by simp [World.frozen?, h]
theorem bench_step (p : Prog) (v0 v1 v5 vl : Value) (k : Nat) (h : k < 12) : (benchCells p v0 v1 v5 vl k).setIfInBounds (10 + (k + 1)) (.int .i64 (sumTo p.shifts (k + 1))) = benchCells p v0 v1 v5 vl (k + 1) := by
  obtain rfl | rfl | rfl | rfl | rfl | rfl | rfl | rfl | rfl | rfl | rfl | rfl : k = 0 ∨ k = 1 ∨ k = 2 ∨ k = 3 ∨ k = 4 ∨ k = 5 ∨ k = 6 ∨ k = 7 ∨ k = 8 ∨ k = 9 ∨ k = 10 ∨ k = 11 := by omega
  all_goals rfl
theorem heap_setAt {W : World} {B i : Nat} {cs : Array Value} {u : Value} {t : TypeId} (h : W.heap[B]? = some (.cells cs t)) : (W.setCell ⟨B, i, none⟩ u).heap[B]? = some (.cells (cs.setIfInBounds i u) t) := by
  simp only [World.setCell, Array.getElem?_modify, h]
  simp
theorem progE_zero {p : Prog} (h : progE p = 0) : rosOk p.ros = true ∧ rubOk p.rub p.ros.length = true ∧ progB p = true := by
  unfold progE bothE at h
  cases h1 : rosOk p.ros <;> cases h2 : rubOk p.rub p.ros.length <;> cases h3 : progB p <;> simp_all
end Go.Proofs.Ytaifechmeagkhaa
