/- pattern.mounted: a valid program at work. -/
import Derived.Test.YtnboppombhibbaaPatCheck
import Derived.Test.YtnboppombhibbaaPerLaw
import Derived.StillTailTactics
namespace Go.Proofs.Ytnboppombhibbaa
open Go.RowKit
set_option linter.unusedVariables false
set_option linter.unusedSimpArgs false

theorem Arr.look {α : Type} {f : α → Value} {w : World} {A : Option Addr} {n c : Nat} {xs : List α} (h : Arr f w (.slice A n c) xs) {k : Nat} (hk : k < xs.length) :
    ∃ b off, A = some ⟨b, off, none⟩ ∧ b < w.heap.size ∧ w.cell? ⟨b, off + k, none⟩ = some (f xs[k]) := by
  obtain ⟨A', c', hv, _, _, _, hr⟩ := h
  injection hv with h1 h2 h3
  subst h1
  obtain ⟨b, off, ha, hb, hc⟩ := hr (by omega)
  exact ⟨b, off, ha, hb, hc k hk⟩
def sumTo (s : List Int) (k : Nat) : Int := (s.take k).sum
/-- The cell i of the sums, the first k shifts being done. -/
def sumAt (s : List Int) (k i : Nat) : Int := if i ≤ k then sumTo s i else 0
def benchCells (p : Prog) (v0 v1 v5 vl : Value) (k : Nat) : Array Value :=
  #[v0, v1, .int .i64 p.start, .int .i64 p.throw, .int .i64 p.adv, v5, vl, .int .i64 p.ros.length, .int .i64 p.shifts.length, .int .i64 (periodL (liftL p.ros p.rub)),
    .int .i64 (sumAt p.shifts k 0), .int .i64 (sumAt p.shifts k 1), .int .i64 (sumAt p.shifts k 2), .int .i64 (sumAt p.shifts k 3), .int .i64 (sumAt p.shifts k 4), .int .i64 (sumAt p.shifts k 5), .int .i64 (sumAt p.shifts k 6),
    .int .i64 (sumAt p.shifts k 7), .int .i64 (sumAt p.shifts k 8), .int .i64 (sumAt p.shifts k 9), .int .i64 (sumAt p.shifts k 10), .int .i64 (sumAt p.shifts k 11), .int .i64 (sumAt p.shifts k 12)]
def IsBench (w : World) (b : Nat) (p : Prog) : Prop :=
  ∃ v0 v1 v5 vl, w.heap[b]? = some (.cells (benchCells p v0 v1 v5 vl p.shifts.length) 89) ∧ Ints w v0 p.ros ∧ Ints w v1 p.rub ∧ Ints w v5 p.shifts ∧ Ints w vl (liftL p.ros p.rub)
theorem IsBench.below {w w' : World} {b : Nat} {p : Prog} (h : IsBench w b p) (hb : Below w.heap.size w w') : IsBench w' b p := by
  obtain ⟨v0, v1, v5, vl, hc, h0, h1, h5, hl⟩ := h
  have hlt : b < w.heap.size := by
    rcases Nat.lt_or_ge b w.heap.size with h | h
    · exact h
    · simp [h] at hc
  exact ⟨v0, v1, v5, vl, (hb.block b hlt).trans hc, h0.below hb, h1.below hb, h5.below hb, hl.below hb⟩
theorem alc_at (w : World) (a : Obj) : (w.alloc a).heap[w.heap.size]? = some a := by unfold World.alloc; exact Array.getElem?_push_size
theorem box_on {w w1 : World} {a : Obj} (h : Below (w.alloc a).heap.size (w.alloc a) w1) : Below w.heap.size w w1 ∧ w.heap.size < w1.heap.size ∧ w1.heap[w.heap.size]? = some a ∧ w.heap.size ≤ w1.heap.size := by
  have hs : w.heap.size < (w.alloc a).heap.size := by simp
  exact ⟨(alc1 _ _).trans (h.mono (Nat.le_of_lt hs)), Nat.lt_of_lt_of_le hs h.size, (h.block _ hs).trans (alc_at _ _), Nat.le_of_lt (Nat.lt_of_lt_of_le hs h.size)⟩
theorem prog_cells {W : World} {B : Nat} {t : TypeId} {v0 v1 v2 v3 v4 v5 : Value} (h : W.heap[B]? = some (.cells #[v0, v1, v2, v3, v4, v5] t)) :
    W.cell? ⟨B, 0, none⟩ = some v0 ∧ W.cell? ⟨B, 1, none⟩ = some v1 ∧ W.cell? ⟨B, 2, none⟩ = some v2 ∧ W.cell? ⟨B, 3, none⟩ = some v3 ∧ W.cell? ⟨B, 4, none⟩ = some v4 ∧ W.cell? ⟨B, 5, none⟩ = some v5 :=
  ⟨cell_of_row W B 0 _ _ _ h, cell_of_row W B 1 _ _ _ h, cell_of_row W B 2 _ _ _ h, cell_of_row W B 3 _ _ _ h, cell_of_row W B 4 _ _ _ h, cell_of_row W B 5 _ _ _ h⟩
theorem progB_iff {p : Prog} : progB p = true ↔ (0 ≤ p.start ∧ p.start ≤ 10000) ∧ (1 ≤ p.throw ∧ p.throw ≤ 16) ∧ (-1000 ≤ p.adv ∧ p.adv ≤ 1000) ∧ (1 ≤ p.shifts.length ∧ p.shifts.length ≤ 12) ∧ ∀ i (h : i < p.shifts.length), 0 ≤ p.shifts[i] ∧ p.shifts[i] < p.ros.length := by
  unfold progB
  simp only [Bool.and_eq_true, within_iff, List.all_eq_true, shiftB]
  constructor
  · rintro ⟨h1, h2, h3, h4, h5⟩
    exact ⟨h1, h2, h3, by omega, fun i h => by have := h5 _ (List.getElem_mem h); omega⟩
  · rintro ⟨h1, h2, h3, h4, h5⟩
    refine ⟨h1, h2, h3, by omega, fun x hx => ?_⟩
    obtain ⟨i, hi, rfl⟩ := List.mem_iff_getElem.1 hx
    have := h5 i hi
    omega
theorem sumTo_succ (s : List Int) (k : Nat) (h : k < s.length) : sumTo s (k + 1) = sumTo s k + s[k] := by
  unfold sumTo; rw [List.take_succ_eq_append_getElem h, List.sum_append]; simp
theorem sumTo_le (s : List Int) (n : Nat) (h : ∀ i (h : i < s.length), 0 ≤ s[i] ∧ s[i] < n) : ∀ k, k ≤ s.length → 0 ≤ sumTo s k ∧ sumTo s k ≤ n * k := by
  intro k
  induction k with
  | zero => intro _; simp [sumTo]
  | succ k ih =>
    intro hk
    have h1 := ih (by omega)
    have h2 := h k (by omega)
    rw [sumTo_succ _ _ (by omega)]
    have : (n : Int) * ((k + 1 : Nat) : Int) = n * k + n := by rw [Int.natCast_add, Int.mul_add]; simp
    omega
theorem sum_small {y : Int} {n k : Nat} (h : 0 ≤ y ∧ y ≤ n * k) (hn : n ≤ 96) (hk : k ≤ 12) : 0 ≤ y ∧ y ≤ 1152 := by
  have h3 : n * k ≤ 96 * 12 := Nat.mul_le_mul hn hk
  have h4 : ((n * k : Nat) : Int) ≤ 1152 := by omega
  rw [Int.natCast_mul] at h4
  exact ⟨h.1, by omega⟩
theorem bench_size (p : Prog) (v0 v1 v5 vl : Value) (k : Nat) : (benchCells p v0 v1 v5 vl k).size = 23 := rfl
theorem bench_at (p : Prog) (v0 v1 v5 vl : Value) (k i : Nat) (h : i < 13) : (benchCells p v0 v1 v5 vl k)[10 + i]? = some (.int .i64 (sumAt p.shifts k i)) := by
  obtain rfl | rfl | rfl | rfl | rfl | rfl | rfl | rfl | rfl | rfl | rfl | rfl | rfl : i = 0 ∨ i = 1 ∨ i = 2 ∨ i = 3 ∨ i = 4 ∨ i = 5 ∨ i = 6 ∨ i = 7 ∨ i = 8 ∨ i = 9 ∨ i = 10 ∨ i = 11 ∨ i = 12 := by omega
  all_goals rfl
theorem bench_sum {W : World} {B : Nat} {t : TypeId} {p : Prog} {v0 v1 v5 vl : Value} {k : Nat} (h : W.heap[B]? = some (.cells (benchCells p v0 v1 v5 vl k) t)) (i : Nat) (hi : i < 13) :
    W.cell? ⟨B, 10 + i, none⟩ = some (.int .i64 (sumAt p.shifts k i)) := (cell_of_row W B _ _ _ _ h).trans (bench_at _ _ _ _ _ _ _ hi)
theorem bench_frozen {W : World} {B : Nat} {cs : Array Value} {t : TypeId} (h : W.heap[B]? = some (.cells cs t)) (i : Nat) : W.frozen? ⟨B, i, none⟩ = false := by simp [World.frozen?, h]
theorem bench_step (p : Prog) (v0 v1 v5 vl : Value) (k : Nat) (h : k < 12) : (benchCells p v0 v1 v5 vl k).setIfInBounds (10 + (k + 1)) (.int .i64 (sumTo p.shifts (k + 1))) = benchCells p v0 v1 v5 vl (k + 1) := by
  obtain rfl | rfl | rfl | rfl | rfl | rfl | rfl | rfl | rfl | rfl | rfl | rfl : k = 0 ∨ k = 1 ∨ k = 2 ∨ k = 3 ∨ k = 4 ∨ k = 5 ∨ k = 6 ∨ k = 7 ∨ k = 8 ∨ k = 9 ∨ k = 10 ∨ k = 11 := by omega
  all_goals rfl
theorem heap_setAt {W : World} {B i : Nat} {cs : Array Value} {u : Value} {t : TypeId} (h : W.heap[B]? = some (.cells cs t)) : (W.setCell ⟨B, i, none⟩ u).heap[B]? = some (.cells (cs.setIfInBounds i u) t) := by
  simp only [World.setCell, Array.getElem?_modify, h]
  simp
theorem progE_zero {p : Prog} (h : progE p = 0) : rosOk p.ros = true ∧ rubOk p.rub p.ros.length = true ∧ progB p = true := by
  unfold progE bothE at h
  cases h1 : rosOk p.ros <;> cases h2 : rubOk p.rub p.ros.length <;> cases h3 : progB p <;> simp_all
set_option maxRecDepth 100000 in
set_option maxHeartbeats 4000000 in
theorem pf_mounted (v : Value) (p : Prog) (w : World) (hv : IsProg w v p) (E : Int) (hE : progE p = E) :
    Calls Try.prog 51 #[v] w fun e w' => ∃ v', e = .returned (.tuple #[v', .int .i64 E]) ∧ Below w.heap.size w w' ∧ (E ≠ 0 → v' = .pointer none) ∧
      (E = 0 → ∃ b, v' = .pointer (some ⟨b, 0, none⟩) ∧ w.heap.size ≤ b ∧ IsBench w' b p) := by
  have hv0 := Lib.hid hv
  have hE' := Lib.hid hE
  obtain ⟨v0, v1, v5, rfl, h0, h1, h5⟩ := hv
  by_cases hE0 : E = 0
  · subst hE0
    have hok := progE_zero hE'.out
    have h0' := Lib.hid h0
    have h1' := Lib.hid h1
    have h5' := Lib.hid h5
    obtain ⟨A0, c0, rfl, hc0, hm0, _, _⟩ := h0
    obtain ⟨A1, c1, rfl, hc1, hm1, _, _⟩ := h1
    obtain ⟨A5, c5, rfl, hc5, hm5, _, hr5⟩ := h5
    clear hE
    have hbo : bothE p.ros p.rub = 0 := by unfold bothE; rw [hok.1, hok.2.1]; rfl
    have hlo := Lib.hid (lift_ok hok.1 hok.2.1)
    go_enter Try.func51, Try.ntmps51
    go_wp2_with (first | (go_at_call 22; refine (pf_pat_Check _ p _ (hv0.out.below (alc1 _ _)) 0 hE'.out).mono ?_; rintro e w1 ⟨rfl, hb1⟩; obtain ⟨hB1, hz1, hx1, hY1⟩ := box_on hb1; obtain ⟨p0, p1, p2, p3, p4, p5⟩ := prog_cells hx1; clear hb1) | (go_at_call 47; refine (pf_ros_Lift _ _ p.ros p.rub _ (h0'.out.below hB1) (h1'.out.below hB1) 0 hbo).mono ?_; rintro e w2 ⟨vl, rfl, hb2, ho2, -⟩; have hB2 := hB1.trans (hb2.mono hY1); have hx2 := (hb2.block w.heap.size hz1).trans hx1; have hz2 := Nat.lt_of_lt_of_le hz1 hb2.size; have hl2 := Lib.hid (Arr.of_own (ho2 rfl)); obtain ⟨lA, lc, hvl, hlc, hlm, _, _⟩ := hl2.out; rw [liftL_length] at hvl hlc; subst hvl; clear ho2 hb2 hx1 hz1 hY1 p0 p1 p2 p3 p4 p5 hB1) | (go_at_call 42; refine (pf_ros_Period _ _ _ hl2.out hlo.out).mono ?_; rintro e w3 ⟨rfl, hb3⟩; have hB3 := hB2.trans (hb3.mono hB2.size); have hx3 := (hb3.block w.heap.size hz2).trans hx2; have hz3 := Nat.lt_of_lt_of_le hz2 hb3.size; have hl3 := Lib.hid (hl2.out.below hb3); obtain ⟨p0, p1, p2, p3, p4, p5⟩ := prog_cells hx3; clear hb3 hx2 hz2 hl2 hB2))
    have hP := progB_iff.1 hok.2.2
    have hc12 := hP.2.2.2.1
    have hB3z := hB3.size
    have hros := (rosOk_iff.1 hok.1)
    go_loopw [48] (fun i wr => ∃ k : Nat, k ≤ p.shifts.length ∧ i = .int .i64 k ∧ Below w3.heap.size w3 wr ∧ w3.heap.size < wr.heap.size ∧
      Hid (wr.heap[w3.heap.size]? = some (.cells (benchCells p (.slice A0 p.ros.length c0) (.slice A1 p.rub.length c1) (.slice A5 p.shifts.length c5) (.slice lA p.ros.length lc) k) 89))) (fun i _ => p.shifts.length - (intOf i).toNat)
    case atStart => exact ⟨0, by omega, rfl, alc1 _ _, by simp, Lib.hid ((alc_at _ _).trans (by simp [benchCells, sumAt, sumTo]))⟩
    case round =>
      obtain ⟨k, hk, rfl, hbw, hwz, hcs⟩ := hrel
      by_cases hlt : k < p.shifts.length
      · obtain ⟨b, off, rfl, hbz, hck⟩ := (h5'.out.below (hB3.trans (hbw.mono hB3z))).look hlt
        obtain ⟨hk0, hk1⟩ := hP.2.2.2.2 k hlt
        have hbc := bench_sum hcs.out k (by omega)
        rw [show sumAt p.shifts k k = sumTo p.shifts k from if_pos (Nat.le_refl _)] at hbc
        have hbf := bench_frozen hcs.out
        have hsk := sumTo_le p.shifts p.ros.length (fun i hi => hP.2.2.2.2 i hi) k (by omega)
        generalize hx : p.shifts[k] = x at hck hk0 hk1
        have hx' := Lib.hid hx
        clear hx
        generalize hy : sumTo p.shifts k = y at hbc hsk
        have hy' := Lib.hid hy
        clear hy
        go_wp2
        have hi1 : (k : Int) < 13 := by omega
        have hi2 : (k : Int) + 1 < 13 := by omega
        have hi3 : (0 : Int) ≤ (k : Int) + 1 := by omega
        have hw0 : IntKind.i64.wrap (k : Int) = (k : Int) := IntWalk.i64_in _ (by omega)
        have hw1 : IntKind.i64.wrap ((k : Int) + 1) = (k : Int) + 1 := IntWalk.i64_in _ (by omega)
        have hyx : 0 ≤ y ∧ y ≤ 1152 := sum_small hsk hros.2.1 (by omega)
        have hw2 : IntKind.i64.wrap (y + x) = y + x := IntWalk.i64_in _ (by omega)
        go_still_tail 14, (by kernel_rfl)
        change wpList _ _ _ _ _ wr.drew
        have hbd : Below w3.heap.size w3 wr.drew := hbw.drew
        have hcd : Hid (wr.drew.heap[w3.heap.size]? = _) := hcs
        have hzd : w3.heap.size < wr.drew.heap.size := hwz
        clear hcs hbw hwz hbc hbf hck
        generalize wr.drew = w4 at hbd hcd hzd ⊢
        have hbn := bench_sum hcd.out (k + 1) (by omega)
        have hbf := bench_frozen hcd.out
        go_wp2
        go_roundw
        case rel => exact ⟨k + 1, by omega, by go_num, hbd.setCell (p := ⟨w3.heap.size, 10 + (k + 1), none⟩) (Nat.le_refl _) _, by simpa [World.setCell] using hzd, Lib.hid ((heap_setAt hcd.out).trans (by rw [← hx'.out, ← hy'.out, ← sumTo_succ _ _ hlt, bench_step _ _ _ _ _ _ (by omega)]))⟩
        case measure => simp [intOf]; omega
      · obtain rfl : k = p.shifts.length := by omega
        go_wp2
        go_ret2
        exact ⟨_, rfl, hB3.trans (hbw.mono hB3z), fun h => absurd rfl h, fun _ => ⟨_, rfl, hB3z, _, _, _, _, hcs.out, h0'.out.below (hB3.trans (hbw.mono hB3z)), h1'.out.below (hB3.trans (hbw.mono hB3z)), h5'.out.below (hB3.trans (hbw.mono hB3z)), hl3.out.below hbw⟩⟩
  · have hne : (E != 0) = true := by simpa using hE0
    have h0' := Lib.hid hE0
    clear h0 h1 h5 hE hE0
    go_enter Try.func51, Try.ntmps51
    go_wp2_with (first | (go_at_call 22; refine (pf_pat_Check _ p _ (hv0.out.below (alc1 _ _)) E hE'.out).mono ?_; rintro e w' ⟨rfl, hb1⟩))
    go_ret2
    exact ⟨_, rfl, (alc1 _ _).trans (hb1.mono (by simp)), fun _ => rfl, fun h => absurd h h0'.out⟩
end Go.Proofs.Ytnboppombhibbaa
