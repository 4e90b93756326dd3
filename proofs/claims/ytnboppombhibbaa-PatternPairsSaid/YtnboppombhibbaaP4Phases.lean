/- pattern's iterator over phases. -/
import Derived.Test.YtnboppombhibbaaP4Cut
import Derived.Test.YtnboppombhibbaaQTail
namespace Go.Proofs.Ytnboppombhibbaa
open Go.RowKit Go.Shelf
set_option linter.unusedVariables false
set_option linter.unusedSimpArgs false
attribute [local go_sem] Oper.semAt_some
theorem Kept.drewN (n₀ : Nat) (Bs : List Nat) (W : World) (n : Nat) : Kept n₀ Bs W (W.drewN n) := ⟨below_drewN' (Below.refl _ _) n, fun _ _ => rfl⟩
theorem grown_drewN (W : World) (n : Nat) (row : Option Nat) : W.grownBy (W.drewN n) row := ⟨rfl, rfl, rfl, Nat.le_refl _, fun _ _ _ => rfl⟩
def phAt (p : Prog) (a : Int) (n : Nat) (i : Fin n) : Array Value := #[.int .i64 (a + i.1), .int .i64 (phaseI p (a + i.1))]
set_option maxRecDepth 100000 in
set_option maxHeartbeats 2000000 in
theorem phases1_yields (p : Prog) (hp : BenchFacts p) (b : Nat) (a : Int) (n : Nat) (w0 w : World) (B1 B2 B3 n₀ : Nat) (hbench : IsBench w0 b p) (ha : -100000 ≤ a ∧ a ≤ 100000) (hn : n ≤ 100000) (h1 : B1 < w.heap.size) (h2 : B2 < w.heap.size) (h3 : B3 < w.heap.size)
    (hn₀ : n₀ ≤ w.heap.size) (h0 : w0.heap.size ≤ n₀) (hb : Below w0.heap.size w0 w) (c1 : w.cell? ⟨B1, 0, none⟩ = some (.int .i64 n)) (c2 : w.cell? ⟨B2, 0, none⟩ = some (.int .i64 a)) (c3 : w.cell? ⟨B3, 0, none⟩ = some (.pointer (some ⟨b, 0, none⟩))) :
    Yields Try.prog 90 #[.pointer (some ⟨B1, 0, none⟩), .pointer (some ⟨B2, 0, none⟩), .pointer (some ⟨B3, 0, none⟩)] n (phAt p a n) n₀ [B1, B2, B3] w := by
  intro l J Jx W hW hJa _ hY hJ0
  have c1' := (hW.cell (p := ⟨B1, 0, none⟩) h1).trans c1
  have c2' := (hW.cell (p := ⟨B2, 0, none⟩) h2).trans c2
  have c3' := (hW.cell (p := ⟨B3, 0, none⟩) h3).trans c3
  have hbW : Below w0.heap.size w0 W := hb.trans (hW.mono (Nat.le_trans h0 hn₀))
  have hJa' := Lib.hid hJa
  clear c1 c2 c3 hJa
  refine callsIn_of_wp Try.func90 rfl trivial ?_ rfl
  simp only [Try.ntmps90, List.size_toArray, List.length_cons, List.length_nil, Nat.reduceAdd, Nat.reduceSub, Array.replicate_succ, Array.replicate_zero, List.push_toArray, List.append_toArray, List.nil_append, List.cons_append]
  gi_wp2
  gi_loopw [7, 5] (fun i _ wr => ∃ k : Nat, k ≤ n ∧ i = .int .i64 k ∧ J ((List.finRange n).take k) wr ∧ Kept n₀ [B1, B2, B3] W wr)
    (fun i _ _ => n - (intOf i).toNat)
  case atStart => exact ⟨0, Nat.zero_le _, rfl, hJ0, Kept.refl _ _ _⟩
  case round =>
    obtain ⟨k, hk, rfl, hJs, hnx⟩ := hrel
    by_cases hlt : k < n
    · have d1 := (hnx.cell (B := B1) (i := 0) (by simp)).trans c1'
      have d2 := (hnx.cell (B := B2) (i := 0) (by simp)).trans c2'
      have d3 := (hnx.cell (B := B3) (i := 0) (by simp)).trans c3'
      have hbn := Lib.hid (hbench.below (hbW.trans (hnx.1.mono h0)))
      have i1 : IntKind.i64.wrap (a + (k : Int)) = a + k := IntWalk.i64_in _ (by omega)
      clear c1' c2' c3'
      gi_wp2
      refine wpF_region_quiet_tail lets_wide 9 (by kernel_rfl) (by kernel_rfl) (by kernel_rfl) ?_
      simp only [List.take_succ_cons, List.take_zero, List.drop_succ_cons, List.drop_zero]
      repeat (go_big_quiet_step (exact Calls.quiet_of (pf_phase b p _ _ (hbn.out.drewN _) hp (by omega) (by omega))))
      refine wpQuiet_nil ?_
      intro _ hw'
      obtain ⟨nq, hw''⟩ := hw'
      subst hw''
      obtain ⟨fn, tmps, assign, body, hy, hR⟩ := hY _ ⟨k, hlt⟩ (wr.drewN nq) (hJa'.out _ _ _ none hJs (grown_drewN _ _ _) (by simp)) (by simp; omega)
      dsimp only [phAt] at hy
      gi_wp2
      refine hR.mono ?_
      rintro e W3 (⟨rfl, hJ3, hk3⟩ | ⟨rfl, hJx3⟩)
      · gi_wp2
        go_roundw
        case rel => exact ⟨k + 1, by omega, by go_num, by rw [finRange_take_succ k hlt]; exact hJ3, (hnx.trans (Kept.drewN _ _ _ _)).trans hk3⟩
        case measure => simp [intOf]; omega
      · gi_wp2
        refine bodyPost_ret (results_none rfl _ _ _) rfl ?_
        exact ⟨⟨_, rfl⟩, .inr ⟨_, ⟨_, by rw [← finRange_take_succ k hlt]; exact List.take_append_drop _ _⟩, hJx3⟩⟩
    · obtain rfl : k = n := by omega
      gi_wp2
      go_end0
      exact ⟨⟨_, rfl⟩, .inl ⟨_, List.take_of_length_le (by simp), hJs⟩⟩
theorem pf_phases (b : Nat) (a n : Int) (w : World) :
    Calls Try.prog 54 #[.pointer (some ⟨b, 0, none⟩), .int .i64 a, .int .i64 n] w fun e w' =>
      e = .returned (.func (.func 90) #[] #[.pointer (some ⟨w.heap.size + 1 + 1, 0, none⟩), .pointer (some ⟨w.heap.size + 1, 0, none⟩), .pointer (some ⟨w.heap.size, 0, none⟩)]) ∧
      ((w.alloc (.cells #[.pointer (some ⟨b, 0, none⟩)] 84)).alloc (.cells #[.int .i64 a] 3)).alloc (.cells #[.int .i64 n] 3) = w' := by
  have hmf : ∀ (fn : Fn) (first cap : Array Value) (w : World), (Instr.makeFunc fn first cap).run Try.prog w = .ok (.func fn first cap) w := fun _ _ _ _ => rfl
  go_enter Try.func54, Try.ntmps54
  go_wp2
  go_ret
  exact ⟨rfl, rfl⟩
end Go.Proofs.Ytnboppombhibbaa
