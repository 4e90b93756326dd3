/- The reference's Great: what is not too great is short. -/
import Derived.Test.YtkblockodaiigaaRdCheckR
namespace Go.Proofs.Ytkblockodaiigaa
set_option maxRecDepth 100000
set_option maxHeartbeats 2000000
open Go.RowKit
set_option linter.unusedVariables false
set_option linter.unusedSimpArgs false
theorem pf_r9_Great (v : Value) (p : Pic) (w : World) (hp : IsPic w v p) (hf : p.Fit) :
  Calls Try.prog 10 #[v] w fun e w' => ∃ b, e = .returned (.bool b) ∧ Below w.heap.size w w' ∧ (b = false → p.hs.length ≤ 6 ∧ p.rds.length ≤ 70 ∧ ∀ h ∈ p.hs, h.ros.length ≤ 24 ∧ h.rub.length ≤ 40) := by
 have hp9 := hp
 obtain ⟨vh, vr, rfl, hh, hr⟩ := hp
 obtain ⟨HA, hc, rfl, hhl⟩ := hh.slice
 obtain ⟨RA, rc, rfl, hrl⟩ := hr.slice
 obtain ⟨W0, hW0, hb0, k0⟩ := newb w (.cells #[.slice HA p.hs.length hc, .int .i64 p.tl, .int .i64 p.th, .int .i64 p.al, .int .i64 p.ah, .slice RA p.rds.length rc] 25)
 obtain ⟨c0, c1, c2, c3, c4, c5⟩ := pc6 k0
 have kck := fun W h => pf_r9_Check _ p W (hp9.le (W := W) h) hf
 unfold maxLen at hhl hrl
 by_cases h6 : 6 < p.hs.length
 ·have h6i : (6 : Int) < (p.hs.length : Int) := by omega
  have ⟨hh', hr', hf', k0', hb0', hp9', kck'⟩ := hyd7 hh hr hf k0 hb0 hp9 kck
  clear kck hp9 hb0 k0 hf hr hh
  go_enter Try.func10, Try.ntmps10
  go_wp2
  go_ret
  first | exact ⟨_, rfl, hb0'.out, fun h => by cases h⟩ | exact .inr ⟨rfl, hb0'.out⟩
 by_cases h70 : 70 < p.rds.length
 ·have h6i : ¬ (6 : Int) < (p.hs.length : Int) := by omega
  have h70i : (70 : Int) < (p.rds.length : Int) := by omega
  have ⟨hh', hr', hf', k0', hb0', hp9', kck'⟩ := hyd7 hh hr hf k0 hb0 hp9 kck
  clear kck hp9 hb0 k0 hf hr hh
  go_enter Try.func10, Try.ntmps10
  go_wp2
  go_ret
  first | exact ⟨_, rfl, hb0'.out, fun h => by cases h⟩ | exact .inr ⟨rfl, hb0'.out⟩
 have h6i : ¬ (6 : Int) < (p.hs.length : Int) := by omega
 have h70i : ¬ (70 : Int) < (p.rds.length : Int) := by omega
 have hh0 := hh.le hb0
 have ⟨hh', hr', hf', k0', hb0', hp9', kck', hh0'⟩ := hyd8 hh hr hf k0 hb0 hp9 kck hh0
 clear hh0 kck hp9 hb0 k0 hf hr hh
 go_enter Try.func10, Try.ntmps10
 go_wp2
 clear hW0
 go_loopw [3] (fun ix wr => ∃ j : Nat, j ≤ p.hs.length ∧ ix = .int .i64 j ∧ Hid (Below W0.heap.size W0 wr ∧ ∀ i (hi : i < p.hs.length), i < j → p.hs[i].ros.length ≤ 24 ∧ p.hs[i].rub.length ≤ 40)) (fun ix _ => p.hs.length - (intOf ix).toNat)
 case atStart => exact ⟨0, Nat.zero_le _, rfl, Lib.hid ⟨Below.refl _ _, fun i _ h => absurd h (Nat.not_lt_zero i)⟩⟩
 case round =>
  obtain ⟨j, hj, rfl, hI⟩ := hrel
  obtain ⟨hbw, hok⟩ := hI.out
  have kj := blk hbw k0'.out
  obtain ⟨c0, c1, c2, c3, c4, c5⟩ := pc6 kj
  have hbE := bel_set hb0'.out hbw
  by_cases hlt : j < p.hs.length
  ·obtain ⟨b2, off2, hc2, vr, vb, heq, hbl2, d3, d4, i3, i4⟩ := (hh0'.out.le hbw).at hlt
   injection heq with e1 e2 e3
   subst e1 e3
   clear e2
   obtain ⟨A1, cc1, rfl, -⟩ := id i3
   obtain ⟨A2, cc2, rfl, -⟩ := id i4
   have j1 : (j : Int) < (p.hs.length : Int) := by omega
   have j2 : (0 : Int) ≤ (j : Int) := by omega
   have hok2 : p.hs[j].ros.length ≤ 24 → p.hs[j].rub.length ≤ 40 → ∀ i (hi : i < p.hs.length), i < j + 1 → p.hs[i].ros.length ≤ 24 ∧ p.hs[i].rub.length ≤ 40 := fun a b i hi hij => by
    by_cases e : i = j
    ·subst e; exact ⟨a, b⟩
    ·exact hok i hi (by omega)
   generalize hLL : p.hs[j].ros.length = LL at *
   generalize hMM : p.hs[j].rub.length = MM at *
   by_cases h24 : 24 < LL
   ·have h24i : (24 : Int) < (LL : Int) := by omega
    have ⟨hI', hbw', hok', i3', i4', hok2', hLL', hMM'⟩ := hyd8 hI hbw hok i3 i4 hok2 hLL hMM
    have ⟨hbE', kj'⟩ := hyd2 hbE kj
    clear kj hbE hMM hLL hok2 i4 i3 hok hbw hI
    go_wp2
    go_ret
    first | exact ⟨_, rfl, hbE'.out, fun h => by cases h⟩ | exact .inr ⟨rfl, hbE'.out⟩
   ·have h24i : ¬ (24 : Int) < (LL : Int) := by omega
    by_cases h40 : 40 < MM
    ·have h40i : (40 : Int) < (MM : Int) := by omega
     have ⟨hI', hbw', hok', i3', i4', hok2', hLL', hMM'⟩ := hyd8 hI hbw hok i3 i4 hok2 hLL hMM
     have ⟨hbE', kj'⟩ := hyd2 hbE kj
     clear kj hbE hMM hLL hok2 i4 i3 hok hbw hI
     go_wp2
     go_ret
     first | exact ⟨_, rfl, hbE'.out, fun h => by cases h⟩ | exact .inr ⟨rfl, hbE'.out⟩
    ·have h40i : ¬ (40 : Int) < (MM : Int) := by omega
     have hn : Below W0.heap.size W0 wr ∧ ∀ i (hi : i < p.hs.length), i < j + 1 → p.hs[i].ros.length ≤ 24 ∧ p.hs[i].rub.length ≤ 40 := ⟨hbw, hok2 (by omega) (by omega)⟩
     have ⟨hI', hbw', hok', i3', i4', hok2', hLL', hMM'⟩ := hyd8 hI hbw hok i3 i4 hok2 hLL hMM
     have ⟨hbE', kj', hn'⟩ := hyd3 hbE kj hn
     clear hn kj hbE hMM hLL hok2 i4 i3 hok hbw hI
     go_wp2
     go_roundw
     case rel => exact ⟨j + 1, by omega, by go_num, hn'⟩
     case measure => simp [intOf]; omega
  ·obtain rfl : j = p.hs.length := by omega
   have hall : ∀ h ∈ p.hs, h.ros.length ≤ 24 ∧ h.rub.length ≤ 40 := fun h hm => by
    obtain ⟨i, hi, rfl⟩ := List.getElem_of_mem hm
    exact hok i hi hi
   have hkc := kck'.out wr hbE
   obtain ⟨E, hE⟩ : ∃ E, picE p = E := ⟨_, rfl⟩
   rw [hE] at hkc
   by_cases hE0 : E = 0
   ·subst hE0
    have hpb : picB p = true := by
     cases h : picB p with
     | true => rfl
     | false => unfold picE at hE; rw [h] at hE; cases hE
    have ok := picB_iff.1 hpb
    have e1 := ok.heads
    have e2 := ok.tl
    have e3 := ok.tle
    have e4 := ok.th
    have e5 := ok.al
    have e6 := ok.ale
    have e7 := ok.ah
    have e8 := ok.span
    obtain ⟨X, hX⟩ : ∃ X : Int, (p.hs.length : Int) * (p.th - p.tl + 1) = X := ⟨_, rfl⟩
    have hX0 : 0 ≤ X ∧ X ≤ 64 := by
     have a1 : (p.hs.length : Int) * (p.th - p.tl + 1) ≤ 4 * 16 := Int.mul_le_mul (by omega) (by omega) (by omega) (by omega)
     have a0 : 0 ≤ (p.hs.length : Int) * (p.th - p.tl + 1) := Int.mul_nonneg (by omega) (by omega)
     omega
    obtain ⟨Y, hY⟩ : ∃ Y : Int, X * (p.ah - p.al + 1) = Y := ⟨_, rfl⟩
    have hY0 : 0 ≤ Y ∧ Y ≤ 2624 := by
     have a1 : X * (p.ah - p.al + 1) ≤ 64 * 41 := Int.mul_le_mul (by omega) (by omega) (by omega) (by omega)
     have a0 : 0 ≤ X * (p.ah - p.al + 1) := Int.mul_nonneg (by omega) (by omega)
     omega
    have ⟨hI', hbw', hok', hbE', kj', hkc', hE', hpb'⟩ := hyd8 hI hbw hok hbE kj hkc hE hpb
    have ⟨ok', hall'⟩ := hyd2 ok hall
    clear hall ok hpb hE hkc kj hbE hok hbw hI
    go_wp2_with (fail)
    go_at_call 34
    refine (hkc'.out).mono ?_
    rintro e W9 ⟨rfl, hb9⟩
    obtain ⟨g0, g1, g2, g3, g4, g5⟩ := pc6 (blk hb9 kj'.out)
    have hbZ := bel_set hbE'.out hb9
    clear c0 c1 c2 c3 c4 c5
    have ⟨hb9', hbZ'⟩ := hyd2 hb9 hbZ
    clear hbZ hb9
    go_wp2
    go_ret
    exact ⟨_, rfl, hbZ'.out, fun _ => ⟨by omega, by omega, hall'.out⟩⟩
   ·have ⟨hI', hbw', hok', hbE', kj', hkc', hE', hall'⟩ := hyd8 hI hbw hok hbE kj hkc hE hall
    clear hall hE hkc kj hbE hok hbw hI
    go_wp2_with (fail)
    go_at_call 34
    refine (hkc'.out).mono ?_
    rintro e W9 ⟨rfl, hb9⟩
    have hbZ := bel_set hbE'.out hb9
    clear c0 c1 c2 c3 c4 c5
    have ⟨hb9', hbZ'⟩ := hyd2 hb9 hbZ
    clear hbZ hb9
    go_wp2
    go_ret
    exact ⟨_, rfl, hbZ'.out, fun _ => ⟨by omega, by omega, hall'.out⟩⟩
end Go.Proofs.Ytkblockodaiigaa
