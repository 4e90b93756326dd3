/- The reference's Last, in, less. Lists of lists of numbers in memory; the reference's allowed. The reference's listed: the first list of shifts. -/
import Derived.Test.YtphdalgaemefoaaGreatRdStartR
import Derived.Test.YtphdalgaemefoaaGreatRdJoinR
namespace Go.Proofs.YtphdalgaemefoaaGreat
set_option maxRecDepth 100000
open Go.RowKit
set_option linter.unusedVariables false
set_option linter.unusedSimpArgs false
theorem lessL_drop {xs ys : List Int} : ∀ (i : Nat), (∀ j (h1 : j < xs.length) (h2 : j < ys.length), j < i → xs[j] = ys[j]) → i ≤ xs.length → xs.length = ys.length → lessL xs ys = lessL (xs.drop i) (ys.drop i)
 | 0, _, _, _ => rfl
 | i + 1, h, hi, hl => by
  rw [lessL_drop i (fun j h1 h2 hj => h j h1 h2 (by omega)) (by omega) hl, List.drop_eq_getElem_cons (show i < xs.length by omega), List.drop_eq_getElem_cons (show i < ys.length by omega)]
  conv => lhs; unfold lessL
  rw [if_pos (h i (by omega) (by omega) (by omega))]
end Go.Proofs.YtphdalgaemefoaaGreat
namespace Go.Proofs.YtphdalgaemefoaaGreat
set_option maxRecDepth 100000
open Go.RowKit
set_option linter.unusedVariables false
set_option linter.unusedSimpArgs false
def GridL (w : World) (v : Value) (L : List (List Int)) : Prop :=
 ∃ A c, v = .slice A L.length c ∧ L.length ≤ c ∧ c ≤ maxLen ∧ (A = none → c = 0) ∧
  (0 < L.length → ∃ b off, A = some ⟨b, off, none⟩ ∧ b < w.heap.size ∧ ∀ j (h : j < L.length), ∃ vr, w.cell? ⟨b, off + j, none⟩ = some vr ∧ Ints w vr L[j])
theorem GridL.le {w W : World} {v : Value} {L : List (List Int)} (h : GridL w v L) (hb : Below w.heap.size w W) : GridL W v L := by
 obtain ⟨A, c, hv, h1, h2, hN, h3⟩ := h
 refine ⟨A, c, hv, h1, h2, hN, fun h0 => ?_⟩
 obtain ⟨b, off, ha, hlt, hc⟩ := h3 h0
 refine ⟨b, off, ha, Nat.lt_of_lt_of_le hlt hb.size, fun j hj => ?_⟩
 obtain ⟨vr, c0, i0⟩ := hc j hj
 exact ⟨vr, (Below.cell hb (p := ⟨b, _, none⟩) hlt).trans c0, i0.below hb⟩
theorem GridL.at {w : World} {v : Value} {L : List (List Int)} (h : GridL w v L) {j : Nat} (hj : j < L.length) : ∃ b off c vr, v = .slice (some ⟨b, off, none⟩) L.length c ∧ b < w.heap.size ∧ w.cell? ⟨b, off + j, none⟩ = some vr ∧ Ints w vr L[j] := by
 obtain ⟨A, c, rfl, h1, h2, hN, h3⟩ := h
 obtain ⟨b, off, rfl, hlt, hc⟩ := h3 (by omega)
 obtain ⟨vr, c0, i0⟩ := hc j hj
 exact ⟨b, off, c, vr, rfl, hlt, c0, i0⟩
theorem GridL.slice {w : World} {v : Value} {L : List (List Int)} (h : GridL w v L) : ∃ A c, v = .slice A L.length c ∧ L.length ≤ maxLen := by
 obtain ⟨A, c, rfl, h1, h2, -⟩ := h
 exact ⟨A, c, rfl, by omega⟩
end Go.Proofs.YtphdalgaemefoaaGreat
namespace Go.Proofs.YtphdalgaemefoaaGreat
set_option maxRecDepth 100000
open Go.RowKit
set_option linter.unusedVariables false
set_option linter.unusedSimpArgs false
theorem shiftAt_some {L : List (List Int)} {steps n r s : Nat} {ph all : Int} (h : s < steps) (hs : allowB L steps n r (ph + (s : Int)) all = true) (hb : ∀ t, t < s → allowB L steps n r (ph + (t : Int)) all = false) : shiftAt L steps n r ph all = some s := by
 unfold shiftAt
 rw [List.find?_range_eq_some]
 exact ⟨hs, List.mem_range.2 h, fun j hj => by rw [hb j hj]; rfl⟩
theorem shiftAt_none {L : List (List Int)} {steps n r : Nat} {ph all : Int} (hb : ∀ t, t < steps → allowB L steps n r (ph + (t : Int)) all = false) : shiftAt L steps n r ph all = none := by
 unfold shiftAt
 rw [List.find?_range_eq_none]
 exact fun j hj => by rw [hb j hj]; rfl
def LiI (L : List (List Int)) (steps n : Nat) (first all : Int) (w : World) (r : Nat) (sum : Int) (vo : Value) (W : World) : Prop :=
 Below w.heap.size w W ∧ ∃ ph out, sum = (ph - first) % (steps : Int) ∧ shiftsGo L steps n all (n - 1) 1 first [] = shiftsGo L steps n all (n - r) r ph out ∧ W.ownsRow w.heap.size 3 1 vo out.length (out.map vint) ∧ out.length + 1 = r
theorem mod_shift {first ph s st : Int} (h : 0 < st) : (first + (((ph - first) % st + s) % st)) % st = (ph + s) % st := by
 rw [Int.add_emod_emod, Int.add_comm, Int.add_assoc, Int.emod_add_emod]
 congr 1
 omega
end Go.Proofs.YtphdalgaemefoaaGreat
