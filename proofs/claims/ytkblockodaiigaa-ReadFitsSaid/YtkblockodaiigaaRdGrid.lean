/- Lists of lists of numbers in memory; the reference's allowed. -/
import Derived.Test.YtkblockodaiigaaRdSmallR
namespace Go.Proofs.Ytkblockodaiigaa
set_option maxRecDepth 100000
set_option maxHeartbeats 600000
open Go.RowKit
set_option linter.unusedVariables false
set_option linter.unusedSimpArgs false
def GridL (w : World) (v : Value) (L : List (List Int)) : Prop :=
 ∃ A c, v = .slice A L.length c ∧ L.length ≤ c ∧ c ≤ maxLen ∧ (A = none → c = 0) ∧
  (0 < L.length → ∃ b off, A = some ⟨b, off, none⟩ ∧ b < w.heap.size ∧ ∀ j (h : j < L.length), ∃ vr, w.cell? ⟨b, off + j, none⟩ = some vr ∧ Ints w vr L[j])
theorem GridL.le {w W : World} {v : Value} {L : List (List Int)} (h : GridL w v L) (hb : Below w.heap.size w W) : GridL W v L := by
 obtain ⟨A, c, hv, h1, h2, hN, h3⟩ := h
 refine ⟨A, c, hv, h1, h2, hN, fun h0 => ?_⟩
 obtain ⟨b, off, ha, hlt, hc⟩ := h3 h0
 refine ⟨b, off, ha, Nat.lt_of_lt_of_le hlt hb.size, fun j hj => ?_⟩
 obtain ⟨vr, c0, i0⟩ := hc j hj
 exact ⟨vr, (Below.cell hb (p := ⟨b, _, none⟩) hlt).trans c0, i0.below hb⟩
theorem GridL.at {w : World} {v : Value} {L : List (List Int)} (h : GridL w v L) {j : Nat} (hj : j < L.length) : ∃ b off c vr, v = .slice (some ⟨b, off, none⟩) L.length c ∧ b < w.heap.size ∧ w.cell? ⟨b, off + j, none⟩ = some vr ∧ Ints w vr L[j] := by
 obtain ⟨A, c, rfl, h1, h2, hN, h3⟩ := h
 obtain ⟨b, off, rfl, hlt, hc⟩ := h3 (by omega)
 obtain ⟨vr, c0, i0⟩ := hc j hj
 exact ⟨b, off, c, vr, rfl, hlt, c0, i0⟩
theorem GridL.slice {w : World} {v : Value} {L : List (List Int)} (h : GridL w v L) : ∃ A c, v = .slice A L.length c ∧ L.length ≤ maxLen := by
 obtain ⟨A, c, rfl, h1, h2, -⟩ := h
 exact ⟨A, c, rfl, by omega⟩
theorem pf_r9_allowed (v : Value) (L : List (List Int)) (steps n r : Nat) (first sum all : Int) (w : World) (hv : GridL w v L) (hL : L.length ≤ 1000) (hn : 0 < n) (hn2 : n ≤ 12) (hr : r < n) (hs : 0 < steps) (hs2 : steps ≤ 96) (hf : 0 ≤ first ∧ first < steps) (hsum : 0 ≤ sum ∧ sum < steps) (hall : 0 ≤ all ∧ all < steps) :
  Calls Try.prog 80 #[v, .int .i64 (steps : Int), .int .i64 (n : Int), .int .i64 (r : Int), .int .i64 first, .int .i64 sum, .int .i64 all] w fun e w' => e = .returned (.bool (allowB L steps n r (first + sum) all)) ∧ ∃ q, w' = w.drewN q := by
 obtain ⟨A, c, rfl, hlm⟩ := hv.slice
 have hv' := hyd1 hv
 clear hv
 go_enter Try.func80, Try.ntmps80
 go_wp2
 go_loopw [15] (fun jx wr => ∃ i : Nat, jx = .int .i64 ((r + i * n : Nat) : Int) ∧ Hid (∃ q, wr = w.drewN q) ∧ Hid (allowB L steps n r (first + sum) all = allowB L steps n (r + i * n) (first + sum + (i : Int) * all) all ∧ r + i * n ≤ L.length + 12)) (fun jx _ => L.length + 12 - (intOf jx).toNat)
 case atStart => exact ⟨0, by simp, Lib.hid ⟨0, rfl⟩, Lib.hid ⟨by simp, by omega⟩⟩
 case round =>
  obtain ⟨i, rfl, hN, hI⟩ := hrel
  obtain ⟨q, hq⟩ := hN.out
  obtain ⟨heq, hjb⟩ := hI.out
  obtain ⟨j, hj⟩ : ∃ j, r + i * n = j := ⟨_, rfl⟩
  rw [hj] at heq hjb ⊢
  have hstep := allowB_step (L := L) (steps := steps) (all := all) hn j (first + sum + (i : Int) * all)
  by_cases hlt : j < L.length
  ·obtain ⟨b, off, c2, vr, he, hb, hc, hi⟩ := hv'.out.at hlt
   injection he with e1 e2 e3
   subst e1 e3
   clear e2
   rw [if_pos hlt] at hstep
   have hdiv : j / n = i := by rw [← hj, Nat.mul_comm, Nat.add_mul_div_left _ _ hn, Nat.div_eq_of_lt hr, Nat.zero_add]
   have hdivI : (j : Int) / (n : Int) = (i : Int) := by rw [← hdiv]; rfl
   have hil : i ≤ 1000 := by
    have : i * 1 ≤ i * n := Nat.mul_le_mul_left _ hn
    omega
   have hg : L.getD j [] = L[j] := by rw [List.getD_eq_getElem?_getD, List.getElem?_eq_getElem hlt]; rfl
   rw [hg] at hstep
   obtain ⟨pr, hpr⟩ : ∃ p, (i : Int) * all = p := ⟨_, rfl⟩
   have hp := mul_in (a := (i : Int)) (b := all) (A := 1000) (B := 96) (by omega) (by omega) (by omega) (by omega) (by decide)
   have hp0 := Int.mul_nonneg (show (0 : Int) ≤ (i : Int) by omega) hall.1
   rw [hpr] at hp hp0 hstep heq
   obtain ⟨x, hx⟩ : ∃ x, (first + sum + pr) % (steps : Int) = x := ⟨_, rfl⟩
   have hx0 := Int.emod_nonneg (first + sum + pr) (show (steps : Int) ≠ 0 by omega)
   have hx1 := Int.emod_lt_of_pos (first + sum + pr) (show (0 : Int) < steps by omega)
   rw [hx] at hx0 hx1 hstep
   obtain ⟨B, hB⟩ : ∃ B, memI L[j] x = B := ⟨_, rfl⟩
   rw [hB] at hstep
   have hle : ∀ k, Below w.heap.size w (wr.drewN k) := fun k => by rw [hq, World.drewN_drewN]; exact below_drewN' (Below.refl _ _) _
   have kin : ∀ k, Calls Try.prog 105 #[vr, .int .i64 x] (wr.drewN k) fun e w' => e = .returned (.bool B) ∧ wr.drewN k = w' := fun k => by
    have := pf_r9_in vr L[j] x (wr.drewN k) (hi.below (hle k))
    rwa [hB] at this
   have hcw : wr.cell? ⟨b, off + j, none⟩ = some vr := by rw [hq]; simpa using hc
   obtain ⟨VA, vc, rfl, -⟩ := id hi
   have j1 : (j : Int) < (L.length : Int) := by omega
   have j2 : (0 : Int) ≤ (j : Int) := by omega
   have j3 : ¬ (n : Int) = 0 := by omega
   have j4 : ¬ (steps : Int) = 0 := by omega
   have j5 : 0 ≤ first + sum + pr := by omega
   have hLj : L[j].length = L[j].length := rfl
   have hstep2 : allowB L steps n r (first + sum) all = (B && allowB L steps n (r + (i + 1) * n) (first + sum + ((i + 1 : Nat) : Int) * all) all) := by
    rw [heq, hstep, show r + (i + 1) * n = j + n by rw [Nat.add_mul]; omega, show first + sum + ((i + 1 : Nat) : Int) * all = first + sum + pr + all by rw [← hpr]; push_cast; rw [Int.add_mul]; omega]
   have hjn : ((r + (i + 1) * n : Nat) : Int) = (j : Int) + (n : Int) := by rw [Nat.add_mul]; omega
   have hjb2 : r + (i + 1) * n ≤ L.length + 12 := by rw [Nat.add_mul]; omega
   have hj9 : (j : Int) ≤ 2000 := by omega
   have ⟨hN', hI', hq', hc', hi', heq', hstep', hg'⟩ := hyd8 hN hI hq hc hi heq hstep hg
   have ⟨hdiv', hB', hle', kin', hstep2', hjn', hjb2', hj'⟩ := hyd8 hdiv hB hle kin hstep2 hjn hjb2 hj
   clear hj hjb2 hjn hstep2 kin hle hB hdiv hg hstep heq hi hc hq hI hN
   go_wp2
   go_quiet ((go_at_call 105; with_reducible exact quiet_same' (kin'.out _)))
   have hq4 : ∃ k, wr.drewN nq = w.drewN k := ⟨_, by rw [hq'.out]; exact World.drewN_drewN _ _ _⟩
   generalize wr.drewN nq = w4 at hq4 ⊢
   have hq4' := hyd1 hq4
   clear hq4
   cases B with
   | true =>
    go_wp2
    go_roundw
    case rel => exact ⟨i + 1, by rw [hjn'.out], hq4', Lib.hid ⟨by rw [hstep2'.out]; rfl, hjb2'.out⟩⟩
    case measure => simp [intOf]; omega
   | false =>
    go_wp2
    go_ret
    exact ⟨by rw [hstep2'.out]; rfl, hq4'.out⟩
  ·rw [if_neg hlt] at hstep
   have hfin : allowB L steps n r (first + sum) all = true := by rw [heq, hstep]
   have j1 : ¬ (j : Int) < (L.length : Int) := by omega
   have ⟨hN', hI', hq', heq', hstep', hj', hfin'⟩ := hyd7 hN hI hq heq hstep hj hfin
   clear hfin hj hstep heq hq hI hN
   go_wp2
   go_ret
   exact ⟨by rw [hfin'.out]; rfl, hN'.out.out⟩
end Go.Proofs.Ytkblockodaiigaa
