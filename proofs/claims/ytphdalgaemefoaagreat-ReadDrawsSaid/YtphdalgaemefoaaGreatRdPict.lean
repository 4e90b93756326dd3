/- The picture of a program's first cuts, with some of its readings, each wider by some amounts: barleycornlaw09.picture. -/
import Derived.Test.YtphdalgaemefoaaGreatRdSee
import Derived.Test.YtphdalgaemefoaaGreatRdAlv
import Derived.BigRegion
import Derived.Lib.MinMax
namespace Go.Proofs.YtphdalgaemefoaaGreat
set_option maxRecDepth 100000
open Go.RowKit
set_option linter.unusedVariables false
set_option linter.unusedSimpArgs false
abbrev vu8 : Nat → Value := fun n => .int .u8 (n : Int)
abbrev Bytes := Arr vu8
def keepB (sm : List Nat) (i : Nat) : Bool := decide (sm.length = 0) || decide (0 < sm.getD (i % sm.length) 0 % 4)
def widI (sm : List Nat) (i : Nat) (r : Rd) : Rd := if sm.length = 0 then r else ⟨r.cut, r.step, r.lo - ((sm.getD (i % sm.length) 0 / 64 : Nat) : Int), r.hi + ((sm.getD ((i + 1) % sm.length) 0 / 64 : Nat) : Int)⟩
def fewTo (sm : List Nat) (L : List Rd) (k : Nat) : List Rd := (List.range k).flatMap fun i => if keepB sm i then [widI sm i (L.getD i default)] else []
theorem fewTo_succ (sm : List Nat) (L : List Rd) (k : Nat) : fewTo sm L (k + 1) = fewTo sm L k ++ (if keepB sm k then [widI sm k (L.getD k default)] else []) := by unfold fewTo; rw [List.range_succ, List.flatMap_append]; simp
theorem fewTo_le (sm : List Nat) (L : List Rd) (k : Nat) : (fewTo sm L k).length ≤ k := by
 induction k with
 | zero => simp [fewTo]
 | succ k ih => rw [fewTo_succ, List.length_append]; split <;> simp <;> omega
def twoB (p : Prog) (other : List Int) : Bool := decide (other.length = p.ros.length) && rosOk other
def picP (p : Prog) (other : List Int) (cuts noise : Int) (sm : List Nat) : Pic :=
 ⟨if twoB p other then [⟨other, p.rub⟩, ⟨p.ros, p.rub⟩] else [⟨p.ros, p.rub⟩], min p.throw 15, min p.throw 15 + 1, p.adv, min (p.adv + 2) 1000, fewTo sm (seeV p cuts noise) (seeV p cuts noise).length⟩
def pictB (p : Prog) (cuts noise : Int) (sm : List Nat) : Bool := decide (seeE p cuts noise = 0) && (decide (0 ≤ p.adv) && decide (0 < (fewTo sm (seeV p cuts noise) (seeV p cuts noise).length).length))
def PiI (W1 : World) (X : Nat) (L : List Rd) (vo : Value) (W : World) : Prop := Below W1.heap.size W1 W ∧ W.ownsRow W1.heap.size 54 4 vo L.length (L.flatMap rdEnc)
theorem see_zero {p : Prog} {cuts noise : Int} (h : seeE p cuts noise = 0) : progE p = 0 := by
 unfold seeE at h
 split at h
 ·rename_i h1; exact absurd h h1
 ·rename_i h1; simpa using h1
theorem seeV_length {p : Prog} {cuts noise : Int} (h : seeE p cuts noise = 0) : (seeV p cuts noise).length ≤ 60 := by
 have h0 := h
 unfold seeE at h
 split at h
 ·rename_i h1; exact absurd h h1
 ·split at h
  ·cases h
  ·split at h
   ·cases h
   ·rename_i h3 h4 h5
    unfold seeV
    rw [h0, if_pos rfl, seeTo_length]
    simp only [Bool.not_eq_true', Bool.not_eq_false, Bool.and_eq_true] at h4
    have := (within_iff.1 h4.1)
    have h6 : ((cuts.toNat * p.ros.length : Nat) : Int) = cuts * (p.ros.length : Int) := by rw [Int.natCast_mul, Int.toNat_of_nonneg (by omega)]
    omega
theorem Arr.cells {α : Type} {f : α → Value} {w : World} {v : Value} {L : List α} (h : Arr f w v L) (h0 : 0 < L.length) : ∃ la lo c, v = .slice (some ⟨la, lo, none⟩) L.length c ∧ la < w.heap.size ∧ ∀ k (hk : k < L.length), w.cell? ⟨la, lo + k, none⟩ = some (f L[k]) := by
 obtain ⟨A, c, rfl, h1, h2, _, hr⟩ := h
 obtain ⟨la, lo, rfl, hb, hc⟩ := hr h0
 exact ⟨la, lo, c, rfl, hb, hc⟩
def PicShape (v : Value) : Prop := ∃ A n c t1 t2 t3 t4 B m d, v = .agg #[.slice A n c, .int .i64 t1, .int .i64 t2, .int .i64 t3, .int .i64 t4, .slice B m d]
theorem heads_one {W : World} {X : Nat} {v0 v1 : Value} {t : TypeId} {h : Hd} (hk : W.heap[X]? = some (.cells #[v0, v1] t)) (i0 : Ints W v0 h.ros) (i1 : Ints W v1 h.rub) : HeadsL W (.slice (some ⟨X, 0, none⟩) 1 1) [h] := by
 obtain ⟨c0, c1⟩ := pc2 hk
 refine ⟨some ⟨X, 0, none⟩, 1, rfl, Nat.le_refl _, by unfold maxLen; omega, fun h => (by cases h), fun _ => ⟨X, 0, rfl, gsl hk, fun j hj => ?_⟩⟩
 obtain rfl : j = 0 := by simp at hj; omega
 exact ⟨v0, v1, c0, c1, i0, i1⟩
theorem heads_two {W : World} {X : Nat} {v0 v1 v2 v3 : Value} {t : TypeId} {h h' : Hd} (hk : W.heap[X]? = some (.cells #[v0, v1, v2, v3] t)) (i0 : Ints W v0 h.ros) (i1 : Ints W v1 h.rub) (i2 : Ints W v2 h'.ros) (i3 : Ints W v3 h'.rub) : HeadsL W (.slice (some ⟨X, 0, none⟩) 2 2) [h, h'] := by
 obtain ⟨c0, c1, c2, c3⟩ := pc4 hk
 refine ⟨some ⟨X, 0, none⟩, 2, rfl, Nat.le_refl _, by unfold maxLen; omega, fun h => (by cases h), fun _ => ⟨X, 0, rfl, gsl hk, fun j hj => ?_⟩⟩
 have hj2 : j = 0 ∨ j = 1 := by simp at hj; omega
 rcases hj2 with rfl | rfl
 ·exact ⟨v0, v1, c0, c1, i0, i1⟩
 ·exact ⟨v2, v3, c2, c3, i2, i3⟩
def PcRel (W3 : World) (AX : Option Addr) (cX : Nat) (AS : Option Addr) (cS : Nat) (AL : Option Addr) (cL B1 B2 n m : Nat) (other : List Int) (sm : List Nat) (L : List Rd) (a : Act) (W : World) : Prop :=
 ∃ (t : Array Value) (i : Nat) (vo : Value), a = { tmps := t, defers := [] } ∧ (∃ u : Nat → Value, t = #[(u 0), .slice AX other.length cX, (u 2), (u 3), .slice AS m cS, .pointer (some ⟨B1, 0, none⟩), (u 6), (u 7), (u 8), (u 9), .pointer (some ⟨B2, 0, none⟩), .bool false, .slice AL n cL, (u 13), vo, (u 15), (u 16), (u 17), (u 18), (u 19), (u 20), (u 21), (u 22), (u 23), (u 24), (u 25), (u 26), (u 27), (u 28), (u 29), (u 30), (u 31), (u 32), (u 33), (u 34), .int .i64 (n : Int), .int .i64 (i : Int), (u 37), (u 38), (u 39), (u 40), (u 41), (u 42), (u 43), (u 44), (u 45), (u 46), (u 47), (u 48), (u 49), (u 50), (u 51), (u 52), (u 53), (u 54), (u 55), (u 56), (u 57), (u 58), (u 59), (u 60), (u 61), (u 62), (u 63), (u 64), (u 65), (u 66), (u 67), (u 68), (u 69), (u 70), (u 71), (u 72), (u 73), (u 74), (u 75), (u 76), (u 77), (u 78), (u 79), (u 80), (u 81), (u 82), (u 83), (u 84), (u 85), (u 86), (u 87), (u 88), (u 89), (u 90), (u 91), (u 92), (u 93), (u 94), (u 95), (u 96), (u 97), (u 98), (u 99), (u 100), (u 101), (u 102), (u 103), (u 104), (u 105), (u 106), (u 107), (u 108), (u 109), (u 110), (u 111), (u 112), (u 113), (u 114), (u 115), (u 116), (u 117), (u 118), (u 119), (u 120), (u 121), (u 122), (u 123), (u 124), (u 125), (u 126), (u 127), (u 128), (u 129), (u 130), (u 131), (u 132), (u 133), (u 134)]) ∧ i ≤ n ∧ Hid (PiI W3 0 (fewTo sm L i) vo W)
theorem see_mem {p : Prog} {cuts noise : Int} (h : seeE p cuts noise = 0) : (1 ≤ cuts ∧ cuts ≤ 12) ∧ (0 ≤ noise ∧ noise ≤ 1000) ∧ ∀ r ∈ seeV p cuts noise, ∃ j i : Nat, (j : Int) < cuts ∧ i < p.ros.length ∧ r = ⟨(j : Int), (i : Int), (cutL p j).getD i 0 - noise, (cutL p j).getD i 0 + noise⟩ := by
 have h0 := h
 unfold seeE at h
 split at h
 ·rename_i h1; exact absurd h h1
 ·split at h
  ·cases h
  ·rename_i h3 h4
   simp only [Bool.not_eq_true', Bool.not_eq_false, Bool.and_eq_true] at h4
   have h5 := within_iff.1 h4.1
   refine ⟨h5, within_iff.1 h4.2, fun r hr => ?_⟩
   unfold seeV seeTo seeRow at hr
   rw [h0, if_pos rfl] at hr
   simp only [List.mem_flatMap, List.mem_map, List.mem_range] at hr
   obtain ⟨j, hj, i, hi, rfl⟩ := hr
   exact ⟨j, i, by omega, hi, rfl⟩
theorem see_bd {p : Prog} {cuts noise : Int} (h : seeE p cuts noise = 0) : ∀ r ∈ seeV p cuts noise, -12000 ≤ r.lo ∧ r.lo ≤ r.hi ∧ r.hi ≤ 182000 := fun r hr => by
 obtain ⟨h1, h2, h3⟩ := see_mem h
 obtain ⟨j, i, hj, hi, rfl⟩ := h3 r hr
 have := cutL_bound (benchFacts (see_zero h)) j (by omega) i hi
 dsimp only
 omega
end Go.Proofs.YtphdalgaemefoaaGreat
