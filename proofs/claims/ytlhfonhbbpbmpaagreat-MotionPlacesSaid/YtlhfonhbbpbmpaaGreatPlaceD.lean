/- barleycornref02.SameSpots: lists of spots. Rows of spots of the call's own. -/
import Derived.Test.YtlhfonhbbpbmpaaGreatPlaceM
import Derived.Test.YtlhfonhbbpbmpaaGreatAppB
namespace Go.Proofs.YtlhfonhbbpbmpaaGreat
set_option maxRecDepth 100000
set_option maxHeartbeats 1000000
open Go.RowKit Go.Shelf
set_option linter.unusedVariables false
set_option linter.unusedSimpArgs false
def SpotsV (w : World) (v : Value) (L : List (Int × Int)) : Prop :=
 ∃ A c, v = .slice A L.length c ∧ L.length ≤ 1000 ∧ (0 < L.length → ∃ b off, A = some ⟨b, off, none⟩ ∧ b < w.heap.size ∧ ∀ j (h : j < L.length), w.cell? ⟨b, off + j * 2, none⟩ = some (.int .i64 L[j].1) ∧ w.cell? ⟨b, off + j * 2 + 1, none⟩ = some (.int .i64 L[j].2))
theorem SpotsV.le {w W : World} {v : Value} {L : List (Int × Int)} (h : SpotsV w v L) (hb : Le w W) : SpotsV W v L := by
 obtain ⟨A, c, hv, h1, h2⟩ := h
 refine ⟨A, c, hv, h1, fun h0 => ?_⟩
 obtain ⟨b, off, ha, hlt, hc⟩ := h2 h0
 exact ⟨b, off, ha, Nat.lt_of_lt_of_le hlt hb.size, fun j hj => ⟨(Below.cell hb (p := ⟨b, _, none⟩) hlt).trans (hc j hj).1, (Below.cell hb (p := ⟨b, _, none⟩) hlt).trans (hc j hj).2⟩⟩
theorem qHJ (L : List (Int × Int)) (v1 v2 : Value) (w : World) (h1 : SpotsV w v1 L) (h2 : SpotsV w v2 L) :
  Calls Tryz.prog 11 #[v1, v2] w fun e w' => e = .returned (.bool true) ∧ ∃ n, w' = w.drewN n := by
 obtain ⟨A, c, rfl, hl, hr⟩ := h1
 obtain ⟨A2, c2, rfl, -, hr2⟩ := h2
 have ⟨hr', hr2'⟩ := hyd2 hr hr2
 clear hr2 hr
 go_enter Tryz.func11, Tryz.ntmps11
 go_wp2
 go_loopw [5] (fun ix wr => ∃ j : Nat, j ≤ L.length ∧ ix = .int .i64 j ∧ ∃ n, wr = w.drewN n) (fun ix wr => L.length - (intOf ix).toNat)
 case atStart => exact ⟨0, Nat.zero_le _, rfl, 0, rfl⟩
 case round =>
  obtain ⟨j, hj, rfl, n, hn⟩ := hrel
  by_cases hlt : j < L.length
  ·obtain ⟨b, off, rfl, hb, hc⟩ := hr'.out (by omega)
   obtain ⟨b2, off2, rfl, hb2, hc2⟩ := hr2'.out (by omega)
   obtain ⟨c0, c1⟩ := hc j hlt
   obtain ⟨d0, d1⟩ := hc2 j hlt
   obtain ⟨x, hx⟩ : ∃ x, L[j] = x := ⟨_, rfl⟩
   obtain ⟨x, y⟩ := x
   rw [hx] at c0 c1 d0 d1
   have hq : ∀ p, wr.cell? p = w.cell? p := fun p => by rw [hn]; simp
   rw [← hq] at c0 c1 d0 d1
   have i1 : (j : Int) < (L.length : Int) := by omega
   have i2 : (0 : Int) ≤ (j : Int) := by omega
   clear hc hc2 hq
   dsimp only at c0 c1 d0 d1
   have ⟨hx', hn'⟩ := hyd2 hx hn
   clear hn hx
   go_wp2
   go_region
   go_wp2
   go_roundw
   case rel => exact ⟨j + 1, by omega, by go_num, n + 1, by rw [hn'.out]; simp⟩
   case measure => simp [intOf]; omega
  ·obtain rfl : j = L.length := by omega
   go_wp2
   go_ret
   exact ⟨rfl, n, rfl⟩
def qLT (x : Int × Int) : List Value := [.int .i64 x.1, .int .i64 x.2]
def qBP (L : List (Int × Int)) : List Value := L.flatMap qLT
theorem qFP (L : List (Int × Int)) (x : Int × Int) : qBP (L ++ [x]) = qBP L ++ [.int .i64 x.1, .int .i64 x.2] := by
 unfold qBP; rw [List.flatMap_append]; simp [qLT]
theorem qJE (L : List (Int × Int)) : ∀ j (h : j < L.length), (qBP L)[j * 2]? = some (.int .i64 L[j].1) ∧ (qBP L)[j * 2 + 1]? = some (.int .i64 L[j].2) := by
 induction L with
 | nil => intro j h; simp at h
 | cons x xs ih =>
  intro j h
  have e : qBP (x :: xs) = [.int .i64 x.1, .int .i64 x.2] ++ qBP xs := by unfold qBP; rw [List.flatMap_cons]; rfl
  rw [e]
  cases j with
  | zero => exact ⟨rfl, rfl⟩
  | succ j =>
   obtain ⟨h1, h2⟩ := ih j (by simpa using h)
   rw [List.getElem?_append_right (by simp; omega), List.getElem?_append_right (by simp; omega)]
   rw [show (j + 1) * 2 - [Value.int .i64 x.1, Value.int .i64 x.2].length = j * 2 by simp; omega, show (j + 1) * 2 + 1 - [Value.int .i64 x.1, Value.int .i64 x.2].length = j * 2 + 1 by simp; omega]
   exact ⟨h1, h2⟩
theorem SpotsV.of_row {w : World} {base : Nat} {e : TypeId} {v : Value} {L : List (Int × Int)} (h : w.ownsRow base e 2 v L.length (qBP L)) (hl : L.length ≤ 1000) : SpotsV w v L := by
 have h0 := h
 rcases h.2 with ⟨rfl, hx⟩ | ⟨g, cap, cur, rfl, hbg, hg, hnc, hcm, hcs, htake⟩
 ·have hn : L = [] := by
   cases L with
   | nil => rfl
   | cons x xs => simp at hx
  subst hn
  exact ⟨none, 0, rfl, hl, fun h => absurd h (Nat.lt_irrefl 0)⟩
 ·refine ⟨some ⟨g, 0, none⟩, cap, rfl, hl, fun _ => ⟨g, 0, rfl, (gsl hg), fun j hj => ?_⟩⟩
  obtain ⟨g1, g2⟩ := qJE L j hj
  rw [Nat.zero_add]
  exact ⟨by rw [h0.cellAt (j * 2) (by omega)]; exact g1, by rw [h0.cellAt (j * 2 + 1) (by omega)]; exact g2⟩
theorem qLU (W : World) (x : Int × Int) (e : TypeId) : ∀ (j : Nat) (u : Value), [Value.int .i64 x.1, Value.int .i64 x.2][j]? = some u → (W.alloc (.cells #[.int .i64 x.1, .int .i64 x.2] e)).cell? ((⟨W.heap.size, 0, none⟩ : Addr).add j) = some u := by
 intro j u hu
 have hj : j < 2 := (List.getElem?_eq_some_iff.1 hu).1
 have hadd : (⟨W.heap.size, 0, none⟩ : Addr).add j = ⟨W.heap.size, j, none⟩ := by unfold Addr.add; split <;> simp_all
 rw [hadd, World.cell?_alloc_at _ _ _ _ rfl]
 match j, hj with
 | 0, _ => simpa using hu
 | 1, _ => simpa using hu
theorem qKn : (Tryz.prog.info? 72).map (fun i => (i.zero, i.size, i.bytes)) = some (some (.agg #[.int .i64 0, .int .i64 0]), 2, 16) := by kernel_rfl
end Go.Proofs.YtlhfonhbbpbmpaaGreat

