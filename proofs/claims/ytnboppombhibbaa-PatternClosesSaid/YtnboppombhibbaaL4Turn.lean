/- The laws' helper turn: a list turned. -/
import Derived.Test.YtnboppombhibbaaL4Then
import Derived.Test.YtnboppombhibbaaClosesLaw
namespace Go.Proofs.Ytnboppombhibbaa
open Go.RowKit Go.Lib
set_option linter.unusedVariables false
set_option linter.unusedSimpArgs false
set_option maxRecDepth 100000 in
set_option maxHeartbeats 1000000 in
theorem pf_turn (v : Value) (f : List Int) (s : Int) (w : World) (hv : Ints w v f) (hl : f.length ≤ 1000) (hs : -1000000 ≤ s ∧ s ≤ 1000000) :
    Calls Try.prog 40 #[v, .int .i64 s] w fun e w' => ∃ v', e = .returned v' ∧ Below w.heap.size w w' ∧ w'.ownsRow w.heap.size 3 1 v' (movedL f s).length ((movedL f s).map vint) := by
  have hv0 := Lib.hid hv
  obtain ⟨A, c, rfl, hlc, hcm, _, hr⟩ := hv
  unfold maxLen at hcm
  clear hr
  go_enter Try.func40, Try.ntmps40
  go_wp2
  go_loopw [9, 5] (fun i r wr => ∃ k : Nat, k ≤ f.length ∧ i = .int .i64 k ∧ Below w.heap.size w wr ∧ Hid (wr.ownsRow w.heap.size 3 1 r ((List.range k).map fun (p : Nat) => atR f ((p : Int) - s)).length (((List.range k).map fun (p : Nat) => atR f ((p : Int) - s)).map vint))) (fun i _ _ => f.length - (intOf i).toNat)
  case atStart => exact ⟨0, by omega, rfl, Below.refl _ _, World.ownsRow_nil _ _ _ _⟩
  case round =>
    obtain ⟨k, hk, rfl, hbw, hown⟩ := hrel
    by_cases hlt : k < f.length
    · have hq0 := Int.emod_nonneg ((k : Int) - s) (show (f.length : Int) ≠ 0 by omega)
      have hq1 := Int.emod_lt_of_pos ((k : Int) - s) (show (0 : Int) < (f.length : Int) by omega)
      obtain ⟨q, hq⟩ : ∃ q : Nat, ((k : Int) - s) % (f.length : Int) = (q : Int) := ⟨_, (Int.toNat_of_nonneg hq0).symm⟩
      have hql : q < f.length := by omega
      obtain ⟨b, off, rfl, hbz, hck⟩ := (hv0.out.below hbw).look hql
      have hat : atR f ((k : Int) - s) = f[q] := by
        have : atR f ((k : Int) - s) = atR f (q : Int) := atR_mod _ _ _ (by rw [hq]; exact (Int.emod_eq_of_lt (by omega) (by omega)).symm)
        rw [this, atR_nat q hql]
      have hmap : (List.range (k + 1)).map (fun (p : Nat) => atR f ((p : Int) - s)) = (List.range k).map (fun (p : Nat) => atR f ((p : Int) - s)) ++ [f[q]] := by
        rw [List.range_succ, List.map_append, List.map_singleton, hat]
      have hmap' := Lib.hid hmap
      have hlen : ((List.range k).map fun (p : Nat) => atR f ((p : Int) - s)).length = k := by simp
      have hni : (0 : Int) < (f.length : Int) := by omega
      have hnz : ¬ (f.length : Int) = 0 := by omega
      obtain ⟨t, ht⟩ : ∃ t, ((k : Int) - s).tmod (f.length : Int) = t := ⟨_, rfl⟩
      obtain ⟨f1, f2, -, -⟩ := tmod_facts ((k : Int) - s) (f.length : Int) hni
      rw [ht] at f1 f2
      have e1 : (t + (f.length : Int)).tmod (f.length : Int) = (q : Int) := (tmod_twice _ _ t hni ht).trans hq
      have w1 : IntKind.i64.wrap ((k : Int) - s) = (k : Int) - s := IntWalk.i64_in _ (by omega)
      have w2 : IntKind.i64.wrap (t + (f.length : Int)) = t + (f.length : Int) := IntWalk.i64_in _ (by omega)
      have i1 : (0 : Int) ≤ (q : Int) := by omega
      have i2 : (q : Int) < (f.length : Int) := by omega
      have hbz2 := hbw.size
      clear hmap hat hq f1 f2 hq0 hq1
      generalize (List.range k).map (fun (p : Nat) => atR f ((p : Int) - s)) = L at hown hmap' hlen
      generalize f[q] = x at hck hmap'
      go_wp2_with (first | (at_builtin; go_must (refine wpList_appI rfl _ _ 22 rfl w.heap.size 3 elemInt _ L rfl (hown.out.alloc _) _ [x] rfl (one_newI _ _ _) (by simp; omega) (by simp; omega) ?_)))
      intro v3 w3 h1 h2 _ _
      have h1' := Lib.hid h1
      clear h1
      have hB3 : Below w.heap.size w w3 := (hbw.alloc hbz2 _).trans h2
      clear h2
      go_wp2
      go_roundw
      case rel => exact ⟨k + 1, by omega, by go_num, hB3, by have h := h1'.out; rw [hmap'.out, List.length_append, List.map_append, hlen]; exact h⟩
      case measure => simp [intOf]; omega
    · obtain rfl : k = f.length := by omega
      go_wp2
      go_ret
      exact ⟨_, rfl, hbw, hown.out⟩
end Go.Proofs.Ytnboppombhibbaa
