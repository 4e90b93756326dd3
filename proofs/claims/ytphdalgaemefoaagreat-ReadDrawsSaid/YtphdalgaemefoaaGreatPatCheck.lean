/- Programs (layer 4): what their values are; Check. pattern.mounted: a valid program at work. The reference of layer 3: Lifted, Moved, Least. The reference of layer 3: Lifted. The phases of a bench. The reference of layer 4: lift, Period, Great, Phase. The reference of layer 4: Phase. A block of the call's own that stays as it is: what the world keeps of it. -/
import Derived.Test.YtphdalgaemefoaaGreatRos2
import Derived.Test.YtphdalgaemefoaaGreatBase
import Derived.Test.YtphdalgaemefoaaGreatRef3
import Derived.Test.YtphdalgaemefoaaGreatBoxKit
import Derived.StillTailTactics
namespace Go.Proofs.YtphdalgaemefoaaGreat
set_option maxRecDepth 100000
set_option maxHeartbeats 4000000
open Go.RowKit
set_option linter.unusedVariables false
set_option linter.unusedSimpArgs false

structure Prog where
 ros : List Int
 rub : List Int
 start : Int
 throw : Int
 adv : Int
 shifts : List Int
def Prog.fits (p : Prog) : Prop := (∀ x ∈ p.ros, (Lit.int .i64 x).wf = true) ∧ (∀ x ∈ p.rub, (Lit.int .i64 x).wf = true) ∧ (∀ x ∈ p.shifts, (Lit.int .i64 x).wf = true) ∧
 (Lit.int .i64 p.start).wf = true ∧ (Lit.int .i64 p.throw).wf = true ∧ (Lit.int .i64 p.adv).wf = true
def IsProg (w : World) (v : Value) (p : Prog) : Prop :=
 ∃ v0 v1 v5, v = .agg #[v0, v1, .int .i64 p.start, .int .i64 p.throw, .int .i64 p.adv, v5] ∧ Ints w v0 p.ros ∧ Ints w v1 p.rub ∧ Ints w v5 p.shifts
theorem IsProg.below {w w' : World} {v : Value} {p : Prog} (h : IsProg w v p) (hb : Below w.heap.size w w') : IsProg w' v p := by
 obtain ⟨v0, v1, v5, hv, h0, h1, h5⟩ := h
 exact ⟨v0, v1, v5, hv, h0.below hb, h1.below hb, h5.below hb⟩
def shiftB (n : Nat) (x : Int) : Bool := within x 0 ((n : Int) - 1)
def progB (p : Prog) : Bool := within p.start 0 10000 && (within p.throw 1 16 && (within p.adv (-1000) 1000 && (within p.shifts.length 1 12 && p.shifts.all (shiftB p.ros.length))))
def progE (p : Prog) : Int := if bothE p.ros p.rub ≠ 0 then bothE p.ros p.rub else if progB p then 0 else 40

theorem pf_pat_shift (x : Int) (n : Nat) (A : Option Addr) (c B : Nat) (w : World) (hn : n ≤ 1000) (hc : w.cell? ⟨B, 0, none⟩ = some (.slice A n c)) :
  Calls Tryz.prog 27 (#[.int .i64 x] ++ #[.pointer (some ⟨B, 0, none⟩)]) w fun e w' => e = .returned (.bool (!shiftB n x)) ∧ w = w' := by
 unfold shiftB
 show Calls Tryz.prog 27 #[.int .i64 x, .pointer (some ⟨B, 0, none⟩)] w _
 go_enter Tryz.func27, Tryz.ntmps27
 go_wp2_with (first | (go_at_call 28; refine (pf_within_pattern _ _ _ _).mono ?_; rintro e w' ⟨rfl, rfl⟩))
 go_ret
 exact ⟨rfl, rfl⟩
theorem pf_pat_Check (v : Value) (p : Prog) (w : World) (hv : IsProg w v p) (E : Int) (hE : progE p = E) :
  Calls Tryz.prog 8 #[v] w fun e w' => e = .returned (.int .i64 E) ∧ Below w.heap.size w w' := by
 obtain ⟨v0, v1, v5, rfl, h0, h1, h5⟩ := hv
 have hz0 := Lib.hid h0
 have hz1 := Lib.hid h1
 have hz5 := Lib.hid h5
 obtain ⟨A0, c0, rfl, hc0, hm0, _, _⟩ := h0
 obtain ⟨A1, c1, rfl, hc1, hm1, _, _⟩ := h1
 obtain ⟨A5, c5, rfl, hc5, hm5, _, _⟩ := h5
 unfold maxLen at hm0 hm1 hm5
 obtain ⟨B, hB⟩ : ∃ B, rosOk p.ros = B := ⟨_, rfl⟩
 obtain ⟨C, hC⟩ : ∃ C, rubOk p.rub p.ros.length = C := ⟨_, rfl⟩
 have ⟨hB', hC', hE'⟩ := hyd3 hB hC hE
 clear hB hC hE
 cases B with
 | false =>
  obtain rfl : E = 30 := by
   have h := hE'.out
   unfold progE bothE at h
   rw [hB'.out] at h
   simpa using h.symm
  go_enter Tryz.func8, Tryz.ntmps8
  go_wp2_with (first | (go_at_call 25; refine (pf_ros_Check _ p.ros _ (hz0.out.below (alc1 _ _)) false hB'.out).mono ?_; rintro e w' ⟨rfl, rfl⟩))
  go_ret
  exact ⟨rfl, alc1 _ _⟩
 | true =>
  cases C with
  | false =>
   obtain rfl : E = 31 := by
    have h := hE'.out
    unfold progE bothE at h
    rw [hB'.out, hC'.out] at h
    simpa using h.symm
   go_enter Tryz.func8, Tryz.ntmps8
   go_wp2_with (first | (go_at_call 25; refine (pf_ros_Check _ p.ros _ (hz0.out.below (alc1 _ _)) true hB'.out).mono ?_; rintro e w' ⟨rfl, rfl⟩) | (go_at_call 26; refine (pf_ros_CheckRubber _ p.rub _ _ (hz1.out.below (alc1 _ _)) false hC'.out).mono ?_; rintro e w' ⟨rfl, rfl⟩))
   go_ret
   exact ⟨rfl, alc1 _ _⟩
  | true =>
   have hE2 : (if progB p then (0 : Int) else 40) = E := by
    have h := hE'.out
    unfold progE bothE at h
    rw [hB'.out, hC'.out] at h
    simpa using h
   have hros : p.ros.length ≤ 1000 := by
    have := hB'.out
    unfold rosOk at this
    simp only [Bool.and_eq_true, decide_eq_true_eq] at this
    omega
   unfold progB at hE2
   obtain ⟨X1, hX1⟩ : ∃ X, within p.start 0 10000 = X := ⟨_, rfl⟩
   obtain ⟨X2, hX2⟩ : ∃ X, within p.throw 1 16 = X := ⟨_, rfl⟩
   obtain ⟨X3, hX3⟩ : ∃ X, within p.adv (-1000) 1000 = X := ⟨_, rfl⟩
   obtain ⟨X4, hX4⟩ : ∃ X, within p.shifts.length 1 12 = X := ⟨_, rfl⟩
   obtain ⟨X5, hX5⟩ : ∃ X, p.shifts.all (shiftB p.ros.length) = X := ⟨_, rfl⟩
   rw [hX1, hX2, hX3, hX4, hX5] at hE2
   have ⟨hX1', hX2', hX3', hX4', hX5'⟩ := hyd5 hX1 hX2 hX3 hX4 hX5
   have hcont : ∀ W, Below w.heap.size w W → ∀ Bb, W.cell? ⟨Bb, 0, none⟩ = some (.slice A0 p.ros.length c0) → Calls Tryz.prog 29 #[.slice A5 p.shifts.length c5, .func (.func 27) #[] #[.pointer (some ⟨Bb, 0, none⟩)]] W fun e w' => e = .returned (.bool (!X5)) ∧ W = w' := by
    intro W hb Bb hcell
    have h := pf_ContainsFunc (fun x => !shiftB p.ros.length x) 27 #[.pointer (some ⟨Bb, 0, none⟩)] _ p.shifts W (hz5.out.below hb) (fun _ _ => by kernel_rfl) (fun x _ => pf_pat_shift x _ _ _ _ _ hros hcell)
    rw [all_any, hX5'.out] at h
    exact h
   have hcont' := hyd1 hcont
   have hmf : ∀ (fn : Fn) (first cap : Array Value) (w : World), (Instr.makeFunc fn first cap).run Tryz.prog w = .ok (.func fn first cap) w := fun _ _ _ _ => rfl
   clear hX1 hX2 hX3 hX4 hX5 hE' hcont
   have hE3 := Lib.hid hE2
   clear hE2
   cases X1 with
   | false =>
    have hE4 := hE3.out
    simp at hE4
    subst hE4
    clear hE3
    go_enter Tryz.func8, Tryz.ntmps8
    go_wp2_with (first | (go_at_call 25; refine (pf_ros_Check _ p.ros _ (hz0.out.below (alc1 _ _)) true hB'.out).mono ?_; rintro e w' ⟨rfl, rfl⟩) | (go_at_call 26; refine (pf_ros_CheckRubber _ p.rub _ _ (hz1.out.below (alc1 _ _)) true hC'.out).mono ?_; rintro e w' ⟨rfl, rfl⟩) | (go_at_call 28; refine (pf_within_pattern _ _ _ _).mono ?_; rintro e w' ⟨rfl, rfl⟩; (first | rw [hX1'.out] | rw [hX2'.out] | rw [hX3'.out] | rw [hX4'.out])) | (go_at_call 29; refine (hcont'.out _ (alc1 _ _) _ (World.cell?_alloc_at _ _ _ _ rfl)).mono ?_; rintro e w' ⟨rfl, rfl⟩))
    go_ret
    exact ⟨rfl, alc1 _ _⟩
   | true =>
    cases X2 with
    | false =>
     have hE4 := hE3.out
     simp at hE4
     subst hE4
     clear hE3
     go_enter Tryz.func8, Tryz.ntmps8
     go_wp2_with (first | (go_at_call 25; refine (pf_ros_Check _ p.ros _ (hz0.out.below (alc1 _ _)) true hB'.out).mono ?_; rintro e w' ⟨rfl, rfl⟩) | (go_at_call 26; refine (pf_ros_CheckRubber _ p.rub _ _ (hz1.out.below (alc1 _ _)) true hC'.out).mono ?_; rintro e w' ⟨rfl, rfl⟩) | (go_at_call 28; refine (pf_within_pattern _ _ _ _).mono ?_; rintro e w' ⟨rfl, rfl⟩; (first | rw [hX1'.out] | rw [hX2'.out] | rw [hX3'.out] | rw [hX4'.out])) | (go_at_call 29; refine (hcont'.out _ (alc1 _ _) _ (World.cell?_alloc_at _ _ _ _ rfl)).mono ?_; rintro e w' ⟨rfl, rfl⟩))
     go_ret
     exact ⟨rfl, alc1 _ _⟩
    | true =>
     cases X3 with
     | false =>
      have hE4 := hE3.out
      simp at hE4
      subst hE4
      clear hE3
      go_enter Tryz.func8, Tryz.ntmps8
      go_wp2_with (first | (go_at_call 25; refine (pf_ros_Check _ p.ros _ (hz0.out.below (alc1 _ _)) true hB'.out).mono ?_; rintro e w' ⟨rfl, rfl⟩) | (go_at_call 26; refine (pf_ros_CheckRubber _ p.rub _ _ (hz1.out.below (alc1 _ _)) true hC'.out).mono ?_; rintro e w' ⟨rfl, rfl⟩) | (go_at_call 28; refine (pf_within_pattern _ _ _ _).mono ?_; rintro e w' ⟨rfl, rfl⟩; (first | rw [hX1'.out] | rw [hX2'.out] | rw [hX3'.out] | rw [hX4'.out])) | (go_at_call 29; refine (hcont'.out _ (alc1 _ _) _ (World.cell?_alloc_at _ _ _ _ rfl)).mono ?_; rintro e w' ⟨rfl, rfl⟩))
      go_ret
      exact ⟨rfl, alc1 _ _⟩
     | true =>
      cases X4 with
      | false =>
       have hE4 := hE3.out
       simp at hE4
       subst hE4
       clear hE3
       go_enter Tryz.func8, Tryz.ntmps8
       go_wp2_with (first | (go_at_call 25; refine (pf_ros_Check _ p.ros _ (hz0.out.below (alc1 _ _)) true hB'.out).mono ?_; rintro e w' ⟨rfl, rfl⟩) | (go_at_call 26; refine (pf_ros_CheckRubber _ p.rub _ _ (hz1.out.below (alc1 _ _)) true hC'.out).mono ?_; rintro e w' ⟨rfl, rfl⟩) | (go_at_call 28; refine (pf_within_pattern _ _ _ _).mono ?_; rintro e w' ⟨rfl, rfl⟩; (first | rw [hX1'.out] | rw [hX2'.out] | rw [hX3'.out] | rw [hX4'.out])) | (go_at_call 29; refine (hcont'.out _ (alc1 _ _) _ (World.cell?_alloc_at _ _ _ _ rfl)).mono ?_; rintro e w' ⟨rfl, rfl⟩))
       go_ret
       exact ⟨rfl, alc1 _ _⟩
      | true =>
       cases X5
       all_goals
        have hE4 := hE3.out
        simp at hE4
        subst hE4
        clear hE3
        go_enter Tryz.func8, Tryz.ntmps8
        go_wp2_with (first | (go_at_call 25; refine (pf_ros_Check _ p.ros _ (hz0.out.below (alc1 _ _)) true hB'.out).mono ?_; rintro e w' ⟨rfl, rfl⟩) | (go_at_call 26; refine (pf_ros_CheckRubber _ p.rub _ _ (hz1.out.below (alc1 _ _)) true hC'.out).mono ?_; rintro e w' ⟨rfl, rfl⟩) | (go_at_call 28; refine (pf_within_pattern _ _ _ _).mono ?_; rintro e w' ⟨rfl, rfl⟩; (first | rw [hX1'.out] | rw [hX2'.out] | rw [hX3'.out] | rw [hX4'.out])) | (go_at_call 29; refine (hcont'.out _ (alc1 _ _) _ (World.cell?_alloc_at _ _ _ _ rfl)).mono ?_; rintro e w' ⟨rfl, rfl⟩))
        go_ret
        exact ⟨rfl, alc1 _ _⟩
end Go.Proofs.YtphdalgaemefoaaGreat
namespace Go.Proofs.YtphdalgaemefoaaGreat
set_option maxRecDepth 100000
set_option maxHeartbeats 4000000
open Go.RowKit
set_option linter.unusedVariables false
set_option linter.unusedSimpArgs false

theorem Arr.look {α : Type} {f : α → Value} {w : World} {A : Option Addr} {n c : Nat} {xs : List α} (h : Arr f w (.slice A n c) xs) {k : Nat} (hk : k < xs.length) :
  ∃ b off, A = some ⟨b, off, none⟩ ∧ b < w.heap.size ∧ w.cell? ⟨b, off + k, none⟩ = some (f xs[k]) := by
 obtain ⟨A', c', hv, _, _, _, hr⟩ := h
 injection hv with h1 h2 h3
 subst h1
 obtain ⟨b, off, ha, hb, hc⟩ := hr (by omega)
 exact ⟨b, off, ha, hb, hc k hk⟩
def sumTo (s : List Int) (k : Nat) : Int := (s.take k).sum
def sumAt (s : List Int) (k i : Nat) : Int := if i ≤ k then sumTo s i else 0
def benchCells (p : Prog) (v0 v1 v5 vl : Value) (k : Nat) : Array Value :=
 #[v0, v1, .int .i64 p.start, .int .i64 p.throw, .int .i64 p.adv, v5, vl, .int .i64 p.ros.length, .int .i64 p.shifts.length, .int .i64 (periodL (liftL p.ros p.rub)),
  .int .i64 (sumAt p.shifts k 0), .int .i64 (sumAt p.shifts k 1), .int .i64 (sumAt p.shifts k 2), .int .i64 (sumAt p.shifts k 3), .int .i64 (sumAt p.shifts k 4), .int .i64 (sumAt p.shifts k 5), .int .i64 (sumAt p.shifts k 6),
  .int .i64 (sumAt p.shifts k 7), .int .i64 (sumAt p.shifts k 8), .int .i64 (sumAt p.shifts k 9), .int .i64 (sumAt p.shifts k 10), .int .i64 (sumAt p.shifts k 11), .int .i64 (sumAt p.shifts k 12)]
def IsBench (w : World) (b : Nat) (p : Prog) : Prop :=
 ∃ v0 v1 v5 vl, w.heap[b]? = some (.cells (benchCells p v0 v1 v5 vl p.shifts.length) 111) ∧ Ints w v0 p.ros ∧ Ints w v1 p.rub ∧ Ints w v5 p.shifts ∧ Ints w vl (liftL p.ros p.rub)
theorem IsBench.below {w w' : World} {b : Nat} {p : Prog} (h : IsBench w b p) (hb : Below w.heap.size w w') : IsBench w' b p := by
 obtain ⟨v0, v1, v5, vl, hc, h0, h1, h5, hl⟩ := h
 have hlt : b < w.heap.size := by
  rcases Nat.lt_or_ge b w.heap.size with h | h
  ·exact h
  ·simp [h] at hc
 exact ⟨v0, v1, v5, vl, (hb.block b hlt).trans hc, h0.below hb, h1.below hb, h5.below hb, hl.below hb⟩
theorem box_on {w w1 : World} {a : Obj} (h : Below (w.alloc a).heap.size (w.alloc a) w1) : Below w.heap.size w w1 ∧ w.heap.size < w1.heap.size ∧ w1.heap[w.heap.size]? = some a ∧ w.heap.size ≤ w1.heap.size := by
 have hs : w.heap.size < (w.alloc a).heap.size := by simp
 exact ⟨(alc1 _ _).trans (h.mono (Nat.le_of_lt hs)), Nat.lt_of_lt_of_le hs h.size, (h.block _ hs).trans (alc_at _ _), Nat.le_of_lt (Nat.lt_of_lt_of_le hs h.size)⟩
theorem prog_cells {W : World} {B : Nat} {t : TypeId} {v0 v1 v2 v3 v4 v5 : Value} (h : W.heap[B]? = some (.cells #[v0, v1, v2, v3, v4, v5] t)) :
  W.cell? ⟨B, 0, none⟩ = some v0 ∧ W.cell? ⟨B, 1, none⟩ = some v1 ∧ W.cell? ⟨B, 2, none⟩ = some v2 ∧ W.cell? ⟨B, 3, none⟩ = some v3 ∧ W.cell? ⟨B, 4, none⟩ = some v4 ∧ W.cell? ⟨B, 5, none⟩ = some v5 :=
 ⟨cell_of_row W B 0 _ _ _ h, cell_of_row W B 1 _ _ _ h, cell_of_row W B 2 _ _ _ h, cell_of_row W B 3 _ _ _ h, cell_of_row W B 4 _ _ _ h, cell_of_row W B 5 _ _ _ h⟩
theorem progB_iff {p : Prog} : progB p = true ↔ (0 ≤ p.start ∧ p.start ≤ 10000) ∧ (1 ≤ p.throw ∧ p.throw ≤ 16) ∧ (-1000 ≤ p.adv ∧ p.adv ≤ 1000) ∧ (1 ≤ p.shifts.length ∧ p.shifts.length ≤ 12) ∧ ∀ i (h : i < p.shifts.length), 0 ≤ p.shifts[i] ∧ p.shifts[i] < p.ros.length := by
 unfold progB
 simp only [Bool.and_eq_true, within_iff, List.all_eq_true, shiftB]
 constructor
 ·rintro ⟨h1, h2, h3, h4, h5⟩
  exact ⟨h1, h2, h3, by omega, fun i h => by have := h5 _ (List.getElem_mem h); omega⟩
 ·rintro ⟨h1, h2, h3, h4, h5⟩
  refine ⟨h1, h2, h3, by omega, fun x hx => ?_⟩
  obtain ⟨i, hi, rfl⟩ := List.mem_iff_getElem.1 hx
  have := h5 i hi
  omega
theorem sumTo_succ (s : List Int) (k : Nat) (h : k < s.length) : sumTo s (k + 1) = sumTo s k + s[k] := by
 unfold sumTo; rw [List.take_succ_eq_append_getElem h, List.sum_append]; simp
theorem sumTo_le (s : List Int) (n : Nat) (h : ∀ i (h : i < s.length), 0 ≤ s[i] ∧ s[i] < n) : ∀ k, k ≤ s.length → 0 ≤ sumTo s k ∧ sumTo s k ≤ n * k := by
 intro k
 induction k with
 | zero => intro _; simp [sumTo]
 | succ k ih =>
  intro hk
  have h1 := ih (by omega)
  have h2 := h k (by omega)
  rw [sumTo_succ _ _ (by omega)]
  have : (n : Int) * ((k + 1 : Nat) : Int) = n * k + n := by rw [Int.natCast_add, Int.mul_add]; simp
  omega
theorem sum_small {y : Int} {n k : Nat} (h : 0 ≤ y ∧ y ≤ n * k) (hn : n ≤ 96) (hk : k ≤ 12) : 0 ≤ y ∧ y ≤ 1152 := by
 have h3 : n * k ≤ 96 * 12 := Nat.mul_le_mul hn hk
 have h4 : ((n * k : Nat) : Int) ≤ 1152 := by omega
 rw [Int.natCast_mul] at h4
 exact ⟨h.1, by omega⟩
theorem bench_size (p : Prog) (v0 v1 v5 vl : Value) (k : Nat) : (benchCells p v0 v1 v5 vl k).size = 23 := rfl
theorem bench_at (p : Prog) (v0 v1 v5 vl : Value) (k i : Nat) (h : i < 13) : (benchCells p v0 v1 v5 vl k)[10 + i]? = some (.int .i64 (sumAt p.shifts k i)) := by
 obtain rfl | rfl | rfl | rfl | rfl | rfl | rfl | rfl | rfl | rfl | rfl | rfl | rfl : i = 0 ∨ i = 1 ∨ i = 2 ∨ i = 3 ∨ i = 4 ∨ i = 5 ∨ i = 6 ∨ i = 7 ∨ i = 8 ∨ i = 9 ∨ i = 10 ∨ i = 11 ∨ i = 12 := by omega
 all_goals rfl
theorem bench_sum {W : World} {B : Nat} {t : TypeId} {p : Prog} {v0 v1 v5 vl : Value} {k : Nat} (h : W.heap[B]? = some (.cells (benchCells p v0 v1 v5 vl k) t)) (i : Nat) (hi : i < 13) :
  W.cell? ⟨B, 10 + i, none⟩ = some (.int .i64 (sumAt p.shifts k i)) := (cell_of_row W B _ _ _ _ h).trans (bench_at _ _ _ _ _ _ _ hi)
theorem bench_frozen {W : World} {B : Nat} {cs : Array Value} {t : TypeId} (h : W.heap[B]? = some (.cells cs t)) (i : Nat) : W.frozen? ⟨B, i, none⟩ = false := by simp [World.frozen?, h]
theorem bench_step (p : Prog) (v0 v1 v5 vl : Value) (k : Nat) (h : k < 12) : (benchCells p v0 v1 v5 vl k).setIfInBounds (10 + (k + 1)) (.int .i64 (sumTo p.shifts (k + 1))) = benchCells p v0 v1 v5 vl (k + 1) := by
 obtain rfl | rfl | rfl | rfl | rfl | rfl | rfl | rfl | rfl | rfl | rfl | rfl : k = 0 ∨ k = 1 ∨ k = 2 ∨ k = 3 ∨ k = 4 ∨ k = 5 ∨ k = 6 ∨ k = 7 ∨ k = 8 ∨ k = 9 ∨ k = 10 ∨ k = 11 := by omega
 all_goals rfl
theorem heap_setAt {W : World} {B i : Nat} {cs : Array Value} {u : Value} {t : TypeId} (h : W.heap[B]? = some (.cells cs t)) : (W.setCell ⟨B, i, none⟩ u).heap[B]? = some (.cells (cs.setIfInBounds i u) t) := by
 simp only [World.setCell, Array.getElem?_modify, h]
 simp
theorem progE_zero {p : Prog} (h : progE p = 0) : rosOk p.ros = true ∧ rubOk p.rub p.ros.length = true ∧ progB p = true := by
 unfold progE bothE at h
 cases h1 : rosOk p.ros <;> cases h2 : rubOk p.rub p.ros.length <;> cases h3 : progB p <;> simp_all
theorem pf_mounted (v : Value) (p : Prog) (w : World) (hv : IsProg w v p) (E : Int) (hE : progE p = E) :
  Calls Tryz.prog 54 #[v] w fun e w' => ∃ v', e = .returned (.tuple #[v', .int .i64 E]) ∧ Below w.heap.size w w' ∧ (E ≠ 0 → v' = .pointer none) ∧
   (E = 0 → ∃ b, v' = .pointer (some ⟨b, 0, none⟩) ∧ w.heap.size ≤ b ∧ IsBench w' b p) := by
 have hv0 := Lib.hid hv
 have hE' := hyd1 hE
 obtain ⟨v0, v1, v5, rfl, h0, h1, h5⟩ := hv
 by_cases hE0 : E = 0
 ·subst hE0
  have hok := progE_zero hE'.out
  have ⟨h0', h1', h5'⟩ := hyd3 h0 h1 h5
  obtain ⟨A0, c0, rfl, hc0, hm0, _, _⟩ := h0
  obtain ⟨A1, c1, rfl, hc1, hm1, _, _⟩ := h1
  obtain ⟨A5, c5, rfl, hc5, hm5, _, hr5⟩ := h5
  clear hE
  have hbo : bothE p.ros p.rub = 0 := by unfold bothE; rw [hok.1, hok.2.1]; rfl
  have hlo := Lib.hid (lift_ok hok.1 hok.2.1)
  go_enter Tryz.func54, Tryz.ntmps54
  go_wp2_with (first | (go_at_call 8; refine (pf_pat_Check _ p _ (hv0.out.below (alc1 _ _)) 0 hE'.out).mono ?_; rintro e w1 ⟨rfl, hb1⟩; obtain ⟨hB1, hz1, hx1, hY1⟩ := box_on hb1; obtain ⟨p0, p1, p2, p3, p4, p5⟩ := prog_cells hx1; clear hb1) | (go_at_call 68; refine (pf_ros_Lift _ _ p.ros p.rub _ (h0'.out.below hB1) (h1'.out.below hB1) 0 hbo).mono ?_; rintro e w2 ⟨vl, rfl, hb2, ho2, -⟩; have hB2 := hB1.trans (hb2.mono hY1); have hx2 := (hb2.block w.heap.size hz1).trans hx1; have hz2 := Nat.lt_of_lt_of_le hz1 hb2.size; have hl2 := Lib.hid (Arr.of_own (ho2 rfl)); obtain ⟨lA, lc, hvl, hlc, hlm, _, _⟩ := hl2.out; rw [liftL_length] at hvl hlc; subst hvl; clear ho2 hb2 hx1 hz1 hY1 p0 p1 p2 p3 p4 p5 hB1) | (go_at_call 71; refine (pf_ros_Period _ _ _ hl2.out hlo.out).mono ?_; rintro e w3 ⟨rfl, hb3⟩; have hB3 := hB2.trans (hb3.mono hB2.size); have hx3 := (hb3.block w.heap.size hz2).trans hx2; have hz3 := Nat.lt_of_lt_of_le hz2 hb3.size; have hl3 := Lib.hid (hl2.out.below hb3); obtain ⟨p0, p1, p2, p3, p4, p5⟩ := prog_cells hx3; clear hb3 hx2 hz2 hl2 hB2))
  have hP := progB_iff.1 hok.2.2
  have hc12 := hP.2.2.2.1
  have hB3z := hB3.size
  have hros := (rosOk_iff.1 hok.1)
  go_loopw [48] (fun i wr => ∃ k : Nat, k ≤ p.shifts.length ∧ i = .int .i64 k ∧ Below w3.heap.size w3 wr ∧ w3.heap.size < wr.heap.size ∧
   Hid (wr.heap[w3.heap.size]? = some (.cells (benchCells p (.slice A0 p.ros.length c0) (.slice A1 p.rub.length c1) (.slice A5 p.shifts.length c5) (.slice lA p.ros.length lc) k) 111))) (fun i _ => p.shifts.length - (intOf i).toNat)
  case atStart => exact ⟨0, by omega, rfl, alc1 _ _, by simp, Lib.hid ((alc_at _ _).trans (by simp [benchCells, sumAt, sumTo]))⟩
  case round =>
   obtain ⟨k, hk, rfl, hbw, hwz, hcs⟩ := hrel
   by_cases hlt : k < p.shifts.length
   ·obtain ⟨b, off, rfl, hbz, hck⟩ := (h5'.out.below (hB3.trans (hbw.mono hB3z))).look hlt
    obtain ⟨hk0, hk1⟩ := hP.2.2.2.2 k hlt
    have hbc := bench_sum hcs.out k (by omega)
    rw [show sumAt p.shifts k k = sumTo p.shifts k from if_pos (Nat.le_refl _)] at hbc
    have hbf := bench_frozen hcs.out
    have hsk := sumTo_le p.shifts p.ros.length (fun i hi => hP.2.2.2.2 i hi) k (by omega)
    generalize hx : p.shifts[k] = x at hck hk0 hk1
    have hx' := hyd1 hx
    clear hx
    generalize hy : sumTo p.shifts k = y at hbc hsk
    have hy' := hyd1 hy
    clear hy
    go_wp2
    have hi1 : (k : Int) < 13 := by omega
    have hi2 : (k : Int) + 1 < 13 := by omega
    have hi3 : (0 : Int) ≤ (k : Int) + 1 := by omega
    have hw0 : IntKind.i64.wrap (k : Int) = (k : Int) := IntWalk.i64_in _ (by omega)
    have hw1 : IntKind.i64.wrap ((k : Int) + 1) = (k : Int) + 1 := IntWalk.i64_in _ (by omega)
    have hyx : 0 ≤ y ∧ y ≤ 1152 := sum_small hsk hros.2.1 (by omega)
    have hw2 : IntKind.i64.wrap (y + x) = y + x := IntWalk.i64_in _ (by omega)
    go_still_tail 14, (by kernel_rfl)
    change wpList _ _ _ _ _ wr.drew
    have hbd : Below w3.heap.size w3 wr.drew := hbw.drew
    have hcd : Hid (wr.drew.heap[w3.heap.size]? = _) := hcs
    have hzd : w3.heap.size < wr.drew.heap.size := hwz
    clear hcs hbw hwz hbc hbf hck
    generalize wr.drew = w4 at hbd hcd hzd ⊢
    have hbn := bench_sum hcd.out (k + 1) (by omega)
    have hbf := bench_frozen hcd.out
    go_wp2
    go_roundw
    case rel => exact ⟨k + 1, by omega, by go_num, hbd.setCell (p := ⟨w3.heap.size, 10 + (k + 1), none⟩) (Nat.le_refl _) _, by simpa [World.setCell] using hzd, Lib.hid ((heap_setAt hcd.out).trans (by rw [← hx'.out, ← hy'.out, ← sumTo_succ _ _ hlt, bench_step _ _ _ _ _ _ (by omega)]))⟩
    case measure => simp [intOf]; omega
   ·obtain rfl : k = p.shifts.length := by omega
    go_wp2
    go_ret2
    exact ⟨_, rfl, hB3.trans (hbw.mono hB3z), fun h => absurd rfl h, fun _ => ⟨_, rfl, hB3z, _, _, _, _, hcs.out, h0'.out.below (hB3.trans (hbw.mono hB3z)), h1'.out.below (hB3.trans (hbw.mono hB3z)), h5'.out.below (hB3.trans (hbw.mono hB3z)), hl3.out.below hbw⟩⟩
 ·have hne : (E != 0) = true := by simpa using hE0
  have h0' := hyd1 hE0
  clear h0 h1 h5 hE hE0
  go_enter Tryz.func54, Tryz.ntmps54
  go_wp2_with (first | (go_at_call 8; refine (pf_pat_Check _ p _ (hv0.out.below (alc1 _ _)) E hE'.out).mono ?_; rintro e w' ⟨rfl, hb1⟩))
  go_ret2
  exact ⟨_, rfl, (alc1 _ _).trans (hb1.mono (by simp)), fun _ => rfl, fun h => absurd h h0'.out⟩
end Go.Proofs.YtphdalgaemefoaaGreat
namespace Go.Proofs.YtphdalgaemefoaaGreat
set_option maxRecDepth 100000
set_option maxHeartbeats 4000000
open Go.RowKit
set_option linter.unusedVariables false
set_option linter.unusedSimpArgs false
def refP (f b : List Int) (p k : Nat) : Int := (List.range k).foldl (fun a j => max a (pickX f b 1 liftM p j)) (atR f p)
theorem refP_zero (f b : List Int) (p : Nat) : refP f b p 0 = atR f p := rfl
theorem refP_succ (f b : List Int) (p k : Nat) : refP f b p (k + 1) = max (refP f b p k) (pickX f b 1 liftM p k) := by
 unfold refP; rw [List.range_succ, List.foldl_append]; rfl
theorem refP_ge (f b : List Int) (p : Nat) : ∀ k, atR f p ≤ refP f b p k ∧ ∀ j, j < k → pickX f b 1 liftM p j ≤ refP f b p k := by
 intro k
 induction k with
 | zero => exact ⟨by rw [refP_zero]; omega, fun j h => absurd h (by omega)⟩
 | succ k ih =>
  rw [refP_succ]
  refine ⟨by omega, fun j h => ?_⟩
  by_cases hj : j = k
  ·subst hj; omega
  ·have := ih.2 j (by omega); omega
theorem refP_mem (f b : List Int) (p : Nat) : ∀ k, refP f b p k = atR f p ∨ ∃ j, j < k ∧ refP f b p k = pickX f b 1 liftM p j := by
 intro k
 induction k with
 | zero => exact .inl rfl
 | succ k ih =>
  rw [refP_succ]
  by_cases h : refP f b p k ≤ pickX f b 1 liftM p k
  ·exact .inr ⟨k, by omega, by omega⟩
  ·rcases ih with h1 | ⟨j, hj, h1⟩
   ·exact .inl (by omega)
   ·exact .inr ⟨j, by omega, by omega⟩
theorem pickX_near {f b : List Int} (hf : rosOk f = true) (hb : rubOk b f.length = true) (p j : Nat) (hj : j < b.length) : -10000 ≤ pickX f b 1 liftM p j ∧ pickX f b 1 liftM p j ≤ 10000 := by
 obtain ⟨k1, k2, k3, k4, k5⟩ := rubOk_iff.1 hb
 have h4 := atR_height hf ((p : Int) + ((j : Int) - (b.length : Int) / 2))
 have h5 := k4 j hj
 rw [pickX_lift]
 simp [hj]
 omega
theorem refP_near {f b : List Int} (hf : rosOk f = true) (hb : rubOk b f.length = true) (p k : Nat) (hk : k ≤ b.length) : 0 ≤ refP f b p k ∧ refP f b p k ≤ 10000 := by
 have h1 := atR_height hf (p : Int)
 have h2 := (refP_ge f b p k).1
 rcases refP_mem f b p k with h | ⟨j, hj, h⟩
 ·omega
 ·have := pickX_near hf hb p j (by omega); omega
theorem refP_lift {f b : List Int} (hf : rosOk f = true) (hb : rubOk b f.length = true) (p : Nat) (hp : p < f.length) : refP f b p b.length = (liftL f b)[p]'(by rw [liftL_length]; exact hp) := by
 rw [liftL_getElem f b p hp]
 obtain ⟨k1, k2, k3, k4, k5⟩ := rubOk_iff.1 hb
 have hm := rub_mid hb
 have hX : pickX f b 1 liftM p (b.length / 2) = atR f p := by
  rw [pickX_lift, hm, show (p : Int) + (((b.length / 2 : Nat) : Int) - (b.length : Int) / 2) = (p : Int) from by omega]; omega
 obtain ⟨j, hj, he⟩ := pickN_mem b.length (pickX f b 1 liftM p) b.length (by omega)
 have h1 := (refP_ge f b p b.length).2 j hj
 have h2 : refP f b p b.length ≤ pickN b.length (pickX f b 1 liftM p) liftK b.length := by
  rcases refP_mem f b p b.length with h | ⟨i, hi, h⟩
  ·rw [h, ← hX]; exact pickN_ge _ _ _ _ (by omega)
  ·rw [h]; exact pickN_ge _ _ _ _ hi
 omega
theorem refL_lift {f b : List Int} (hf : rosOk f = true) (hb : rubOk b f.length = true) : (List.range f.length).map (fun p => refP f b p b.length) = liftL f b := by
 apply List.ext_getElem
 ·simp [liftL_length]
 ·intro p h1 h2
  rw [liftL_length] at h2
  rw [← refP_lift hf hb p h2]
  simp
end Go.Proofs.YtphdalgaemefoaaGreat
namespace Go.Proofs.YtphdalgaemefoaaGreat
set_option maxRecDepth 100000
set_option maxHeartbeats 4000000
open Go.RowKit
set_option linter.unusedVariables false
set_option linter.unusedSimpArgs false
end Go.Proofs.YtphdalgaemefoaaGreat
namespace Go.Proofs.YtphdalgaemefoaaGreat
set_option maxRecDepth 100000
set_option maxHeartbeats 4000000
open Go.RowKit
set_option linter.unusedVariables false
set_option linter.unusedSimpArgs false
def phaseI (p : Prog) (j : Int) : Int := (j / (p.shifts.length : Int) * sumTo p.shifts p.shifts.length + sumTo p.shifts (j % (p.shifts.length : Int)).toNat) % (p.ros.length : Int)
structure BenchFacts (p : Prog) : Prop where
 ros0 : 3 ≤ p.ros.length
 ros1 : p.ros.length ≤ 96
 start : 0 ≤ p.start ∧ p.start ≤ 10000
 throw : 1 ≤ p.throw ∧ p.throw ≤ 16
 adv : -1000 ≤ p.adv ∧ p.adv ≤ 1000
 sh0 : 1 ≤ p.shifts.length
 sh1 : p.shifts.length ≤ 12
 sh : ∀ i (h : i < p.shifts.length), 0 ≤ p.shifts[i] ∧ p.shifts[i] < p.ros.length
 ros : rosOk p.ros = true
 rub : rubOk p.rub p.ros.length = true
theorem benchFacts {p : Prog} (h : progE p = 0) : BenchFacts p := by
 obtain ⟨h1, h2, h3⟩ := progE_zero h
 obtain ⟨a1, a2, a3, a4, a5⟩ := progB_iff.1 h3
 obtain ⟨b1, b2, _⟩ := rosOk_iff.1 h1
 exact ⟨b1, b2, a1, a2, a3, a4.1, a4.2, a5, h1, h2⟩
theorem BenchFacts.sum {p : Prog} (h : BenchFacts p) (k : Nat) (hk : k ≤ p.shifts.length) : 0 ≤ sumTo p.shifts k ∧ sumTo p.shifts k ≤ 1152 :=
 sum_small (sumTo_le p.shifts p.ros.length h.sh k hk) h.ros1 (Nat.le_trans hk h.sh1)
theorem bench_low {W : World} {B : Nat} {t : TypeId} {p : Prog} {v0 v1 v5 vl : Value} {k : Nat} (h : W.heap[B]? = some (.cells (benchCells p v0 v1 v5 vl k) t)) :
  W.cell? ⟨B, 0, none⟩ = some v0 ∧ W.cell? ⟨B, 1, none⟩ = some v1 ∧ W.cell? ⟨B, 2, none⟩ = some (.int .i64 p.start) ∧ W.cell? ⟨B, 3, none⟩ = some (.int .i64 p.throw) ∧ W.cell? ⟨B, 4, none⟩ = some (.int .i64 p.adv) ∧ W.cell? ⟨B, 5, none⟩ = some v5 ∧
  W.cell? ⟨B, 6, none⟩ = some vl ∧ W.cell? ⟨B, 7, none⟩ = some (.int .i64 p.ros.length) ∧ W.cell? ⟨B, 8, none⟩ = some (.int .i64 p.shifts.length) ∧ W.cell? ⟨B, 9, none⟩ = some (.int .i64 (periodL (liftL p.ros p.rub))) :=
 ⟨cell_of_row W B 0 _ _ _ h, cell_of_row W B 1 _ _ _ h, cell_of_row W B 2 _ _ _ h, cell_of_row W B 3 _ _ _ h, cell_of_row W B 4 _ _ _ h, cell_of_row W B 5 _ _ _ h, cell_of_row W B 6 _ _ _ h, cell_of_row W B 7 _ _ _ h, cell_of_row W B 8 _ _ _ h, cell_of_row W B 9 _ _ _ h⟩
theorem div_bound (j : Int) (n : Nat) (h1 : -1000000 ≤ j) (h2 : j ≤ 1000000) (hn : 1 ≤ n) (hn2 : n ≤ 12) : -1000001 ≤ j / (n : Int) ∧ j / (n : Int) ≤ 1000001 := by
 obtain rfl | rfl | rfl | rfl | rfl | rfl | rfl | rfl | rfl | rfl | rfl | rfl : n = 1 ∨ n = 2 ∨ n = 3 ∨ n = 4 ∨ n = 5 ∨ n = 6 ∨ n = 7 ∨ n = 8 ∨ n = 9 ∨ n = 10 ∨ n = 11 ∨ n = 12 := by omega
 all_goals omega
theorem mul_bound (q S : Int) (h1 : -1000001 ≤ q) (h2 : q ≤ 1000001) (hS : 0 ≤ S ∧ S ≤ 1152) : -2000000000 ≤ q * S ∧ q * S ≤ 2000000000 := by
 have a := Int.mul_le_mul_of_nonneg_right h2 hS.1
 have b := Int.mul_le_mul_of_nonneg_right h1 hS.1
 omega
theorem tdiv_around (j n : Int) (h : 0 < n) : (j - j % n).tdiv n = j / n := by
 have h1 : j - j % n = n * (j / n) := by have := Int.emod_add_mul_ediv j n; omega
 rw [h1, Int.mul_tdiv_cancel_left _ (by omega)]
theorem pf_phase (b : Nat) (p : Prog) (j : Int) (w : World) (hb : IsBench w b p) (hp : BenchFacts p) (h1 : -1000000 ≤ j) (h2 : j ≤ 1000000) :
  Calls Tryz.prog 56 #[.pointer (some ⟨b, 0, none⟩), .int .i64 j] w fun e w' => e = .returned (.int .i64 (phaseI p j)) ∧ ∃ n, w' = w.drewN n := by
 obtain ⟨v0, v1, v5, vl, hc, _, _, _, _⟩ := hb
 obtain ⟨c0, c1, c2, c3, c4, c5, c6, c7, c8, c9⟩ := bench_low hc
 have hr0 := hp.ros0
 have hr1 := hp.ros1
 have hs0 := hp.sh0
 have hs1 := hp.sh1
 have hat0 := Int.emod_nonneg j (show (p.shifts.length : Int) ≠ 0 by omega)
 have hat1 := Int.emod_lt_of_pos j (show (0 : Int) < (p.shifts.length : Int) by omega)
 obtain ⟨a, ha⟩ : ∃ a : Nat, j % (p.shifts.length : Int) = (a : Int) := ⟨_, (Int.toNat_of_nonneg hat0).symm⟩
 have hq := div_bound j p.shifts.length h1 h2 hs0 hs1
 have htd := tdiv_around j p.shifts.length (by omega)
 have hS := hp.sum p.shifts.length (Nat.le_refl _)
 have hA := hp.sum a (by omega)
 have hmb := mul_bound _ _ hq.1 hq.2 hS
 have hcs := bench_sum hc p.shifts.length (by omega)
 have hca := bench_sum hc a (by omega)
 rw [show sumAt p.shifts p.shifts.length p.shifts.length = sumTo p.shifts p.shifts.length from if_pos (Nat.le_refl _)] at hcs
 rw [show sumAt p.shifts p.shifts.length a = sumTo p.shifts a from if_pos (by omega)] at hca
 have hval : phaseI p j = (j / (p.shifts.length : Int) * sumTo p.shifts p.shifts.length + sumTo p.shifts a) % (p.ros.length : Int) := by unfold phaseI; rw [ha, Int.toNat_natCast]
 rw [hval]
 rw [ha] at hat0 hat1 htd
 have ha' := hyd1 ha
 clear hc hval ha
 generalize sumTo p.shifts p.shifts.length = S at hS hmb hcs
 generalize sumTo p.shifts a = s at hA hca
 generalize p.ros.length = n at hr0 hr1 c7
 generalize p.shifts.length = l at *
 generalize hQ : j / (l : Int) = q at htd hq hmb
 clear hQ
 have hi0 : (a : Int) < 13 := by omega
 have hi1 : (l : Int) < 13 := by omega
 have hw0 : IntKind.i64.wrap (j - (a : Int)) = j - a := IntWalk.i64_in _ (by omega)
 have hw1 : IntKind.i64.wrap q = q := IntWalk.i64_in _ (by omega)
 have hw2 : IntKind.i64.wrap (q * S) = q * S := IntWalk.i64_in _ (by omega)
 have hw3 : IntKind.i64.wrap (q * S + s) = q * S + s := IntWalk.i64_in _ (by omega)
 have hw4 : IntKind.i64.wrap (l : Int) = l := IntWalk.i64_in _ (by omega)
 have hw5 : IntKind.i64.wrap (a : Int) = a := IntWalk.i64_in _ (by omega)
 go_enter Tryz.func56, Tryz.ntmps56
 go_wp2_with (first | (go_at_call 55; refine (pf_pat_modulo _ _ _ (by omega) (by omega) (by unfold Mid; omega)).mono ?_; rintro e w' ⟨rfl, rfl⟩; rw [ha'.out]))
 go_quiet (first | (go_at_call 55; exact quiet_same' (pf_pat_modulo _ _ _ (by omega) (by omega) (by unfold Mid; omega))))
 go_wp2
 go_ret
 exact ⟨rfl, _, rfl⟩
end Go.Proofs.YtphdalgaemefoaaGreat
namespace Go.Proofs.YtphdalgaemefoaaGreat
set_option maxRecDepth 100000
set_option maxHeartbeats 4000000
open Go.RowKit
set_option linter.unusedVariables false
set_option linter.unusedSimpArgs false
end Go.Proofs.YtphdalgaemefoaaGreat
namespace Go.Proofs.YtphdalgaemefoaaGreat
set_option maxRecDepth 100000
set_option maxHeartbeats 4000000
open Go.RowKit
set_option linter.unusedVariables false
set_option linter.unusedSimpArgs false
end Go.Proofs.YtphdalgaemefoaaGreat
namespace Go.Proofs.YtphdalgaemefoaaGreat
set_option maxRecDepth 100000
set_option maxHeartbeats 4000000
open Go.RowKit
set_option linter.unusedVariables false
theorem Box.prog {w : World} {B : Nat} {v0 v1 v2 v3 v4 v5 : Value} {t : TypeId} {w1 : World} (h : Box w B (.cells #[v0, v1, v2, v3, v4, v5] t) w1) :
  w1.cell? ⟨B, 0, none⟩ = some v0 ∧ w1.cell? ⟨B, 1, none⟩ = some v1 ∧ w1.cell? ⟨B, 2, none⟩ = some v2 ∧ w1.cell? ⟨B, 3, none⟩ = some v3 ∧ w1.cell? ⟨B, 4, none⟩ = some v4 ∧ w1.cell? ⟨B, 5, none⟩ = some v5 := prog_cells h.block
def onOk (E : Int) (l : List Int) : List Int := if E = 0 then l else []
theorem onOk_zero (l : List Int) : onOk 0 l = l := rfl
theorem onOk_ne {E : Int} (h : E ≠ 0) (l : List Int) : onOk E l = [] := if_neg h
end Go.Proofs.YtphdalgaemefoaaGreat
