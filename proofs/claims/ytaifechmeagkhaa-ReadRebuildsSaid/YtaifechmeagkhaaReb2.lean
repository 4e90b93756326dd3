/- read.Rebuild and the reference's. -/
import Derived.Test.YtaifechmeagkhaaReb
import Derived.Test.YtaifechmeagkhaaRefBelow
import Derived.Test.YtaifechmeagkhaaRefLift2
import Derived.Test.YtaifechmeagkhaaBox
namespace Go.Proofs.Ytaifechmeagkhaa
open Go.RowKit
set_option linter.unusedVariables false
set_option linter.unusedSimpArgs false
def RebPost (w : World) (low high rub : List Int) (e : Ending) (w' : World) : Prop := ∃ v', e = .returned (.tuple #[v', .int .i64 (rebN low high rub : Nat), .int .i64 (rebE low high rub)]) ∧ Below w.heap.size w w' ∧
  w'.ownsRow w.heap.size 3 1 v' (rebL low high rub).length ((rebL low high rub).map vint)
theorem reb_fail {w w' : World} {low high rub : List Int} {E : Int} {N : Int} (hE : rebE low high rub = E) (h0 : E ≠ 0) (hN : (rebN low high rub : Int) = N) (hb : Below w.heap.size w w') :
    RebPost w low high rub (.returned (.tuple #[.slice none 0 0, .int .i64 N, .int .i64 E])) w' := by
  refine ⟨_, by rw [hE, hN], hb, ?_⟩
  have : rebL low high rub = [] := by unfold rebL; rw [hE, if_neg h0]
  rw [this]
  exact World.ownsRow_nil _ _ _ _
theorem reb_N0 {low high rub : List Int} {E : Int} (hE : rebE low high rub = E) (h6 : E ≠ 6) : (rebN low high rub : Int) = 0 := by
  unfold rebN; rw [hE, if_neg h6]; rfl
theorem reb_done {w w' : World} {low high rub : List Int} {v : Value} (hE : rebE low high rub = 0) (hb : Below w.heap.size w w') (ho : w'.ownsRow w.heap.size 3 1 v (underL high rub).length ((underL high rub).map vint)) :
    RebPost w low high rub (.returned (.tuple #[v, .int .i64 0, .int .i64 0])) w' := by
  refine ⟨v, by rw [hE, reb_N0 hE (by decide)], hb, ?_⟩
  have : rebL low high rub = underL high rub := by unfold rebL; rw [hE, if_pos rfl]
  rw [this]
  exact ho
theorem rebE_low {low high rub : List Int} (h : rosOk low = false) : rebE low high rub = 30 := by unfold rebE; rw [h]; rfl
theorem rebE_both {low high rub : List Int} {E : Int} (h : rosOk low = true) (hb : bothE high rub = E) (h0 : E ≠ 0) : rebE low high rub = E := by
  unfold rebE; rw [h, if_pos rfl, hb, if_neg h0]
theorem rebE_len {low high rub : List Int} (h : rosOk low = true) (hb : bothE high rub = 0) (hl : low.length ≠ high.length) : rebE low high rub = 2 := by
  unfold rebE; rw [h, if_pos rfl, hb, if_pos rfl, if_neg hl]
theorem rebE_arg {low high rub : List Int} (h : rosOk low = true) (hb : bothE high rub = 0) (hl : low.length = high.length) {i : Nat} (hi : fstLt high low low.length = some i) : rebE low high rub = 2 := by
  unfold rebE; rw [h, if_pos rfl, hb, if_pos rfl, if_pos hl, hi]; rfl
theorem rebE_none {low high rub : List Int} (h : rosOk low = true) (hb : bothE high rub = 0) (hl : low.length = high.length) (hi : fstLt high low low.length = none) {i : Nat} (hj : fstLt (groundL high rub) low low.length = some i) : rebE low high rub = 6 ∧ (rebN low high rub : Int) = i := by
  have h6 : rebE low high rub = 6 := by unfold rebE; rw [h, if_pos rfl, hb, if_pos rfl, if_pos hl, hi, hj]; rfl
  exact ⟨h6, by unfold rebN; rw [h6, if_pos rfl, hj]; rfl⟩
theorem rebE_ok {low high rub : List Int} (h : rosOk low = true) (hb : bothE high rub = 0) (hl : low.length = high.length) (hi : fstLt high low low.length = none) (hj : fstLt (groundL high rub) low low.length = none) : rebE low high rub = 0 := by
  unfold rebE; rw [h, if_pos rfl, hb, if_pos rfl, if_pos hl, hi, hj]; rfl
theorem looks {w : World} {A : Option Addr} {n c : Nat} {xs : List Int} (h : Ints w (.slice A n c) xs) {k : Nat} (hk : k < xs.length) :
    ∃ b off, A = some ⟨b, off, none⟩ ∧ w.cell? ⟨b, off + k, none⟩ = some (.int .i64 (xs.getD k 0)) := by
  obtain ⟨b, off, ha, _, hc⟩ := h.look hk
  exact ⟨b, off, ha, by rw [hc]; simp [hk]⟩
set_option maxRecDepth 100000 in
set_option maxHeartbeats 2000000 in
theorem pf_Rebuild (vl vh vr : Value) (low high rub : List Int) (w : World) (hl : Ints w vl low) (hh : Ints w vh high) (hr : Ints w vr rub) :
    Calls Try.prog 5 #[vl, vh, vr] w (RebPost w low high rub) := by
  have hl0 := Lib.hid hl
  have hh0 := Lib.hid hh
  have hr0 := Lib.hid hr
  obtain ⟨A, c, rfl, hlc, hcm, _, _⟩ := hl
  obtain ⟨A', c', rfl, hlc', hcm', _, _⟩ := hh
  obtain ⟨A2, c2, rfl, _, _, _, _⟩ := hr
  unfold maxLen at hcm hcm'
  obtain ⟨B, hB⟩ : ∃ B, rosOk low = B := ⟨_, rfl⟩
  obtain ⟨E, hE⟩ : ∃ E, bothE high rub = E := ⟨_, rfl⟩
  cases B with
  | false =>
    have h1 := Lib.hid (rebE_low (high := high) (rub := rub) hB)
    have hB' := Lib.hid hB
    have hE' := Lib.hid hE
    clear hE hB
    go_enter Try.func5, Try.ntmps5
    go_wp2_with (first | (go_at_call 8; ((with_reducible refine (pf_ros_Check _ low _ hl0.out false hB'.out).mono ?_); rintro e w' ⟨rfl, rfl⟩)))
    go_ret3
    exact reb_fail h1.out (by decide) (reb_N0 h1.out (by decide)) (Below.refl _ _)
  | true =>
    by_cases hE0 : E = 0
    · subst hE0
      by_cases hlen : low.length = high.length
      · have hlt1 : ((low.length : Int) != (high.length : Int)) = false := by simp [hlen]
        have hgl : (groundL high rub).length = low.length := by rw [groundL_length, hlen]
        have hB' := Lib.hid hB
        have hE' := Lib.hid hE
        have hlen' := Lib.hid hlen
        have hgl' := Lib.hid hgl
        clear hgl hlen hE hB
        go_enter Try.func5, Try.ntmps5
        go_wp2_with (first | (go_at_call 8; ((with_reducible refine (pf_ros_Check _ low _ hl0.out true hB'.out).mono ?_); rintro e w' ⟨rfl, rfl⟩)) | (go_at_call 9; ((with_reducible refine (pf_ros_Grind _ _ high rub _ hh0.out hr0.out 0 hE'.out).mono ?_); rintro e w' ⟨vg, rfl, hb1, ho1, -⟩; obtain ⟨gA, gc, rfl, -, -, -, -⟩ := Arr.of_own (ho1 rfl); have ho1' := Lib.hid (Arr.of_own (ho1 rfl)); clear ho1)))
        go_loopw [34] (fun i wr => ∃ k : Nat, k ≤ low.length ∧ i = .int .i64 k ∧ Below w.heap.size w wr ∧ Hid (Ints wr (.slice gA (groundL high rub).length gc) (groundL high rub)) ∧ Hid (∀ j, j < k → low.getD j 0 ≤ high.getD j 0)) (fun i _ => low.length - (intOf i).toNat)
        case atStart => exact ⟨0, Nat.zero_le _, rfl, hb1, ho1', Lib.hid fun j h => absurd h (by omega)⟩
        case round =>
          obtain ⟨k, hk, rfl, hbw, hg, hno⟩ := hrel
          clear hb1 ho1'
          by_cases hlt : k < low.length
          · have hlt' : k < high.length := by have := hlen'.out; omega
            obtain ⟨b1, o1, rfl, hk1⟩ := looks (hl0.out.below hbw) hlt
            obtain ⟨b2, o2, rfl, hk2⟩ := looks (hh0.out.below hbw) hlt'
            obtain ⟨x, hx⟩ : ∃ x, low.getD k 0 = x := ⟨_, rfl⟩
            obtain ⟨y, hy⟩ : ∃ y, high.getD k 0 = y := ⟨_, rfl⟩
            rw [hx] at hk1
            rw [hy] at hk2
            have i1 : (0 : Int) ≤ (k : Int) := by omega
            have i2 : (k : Int) < (low.length : Int) := by omega
            have i3 : (k : Int) < (high.length : Int) := by omega
            have hx' := Lib.hid hx
            have hy' := Lib.hid hy
            clear hy hx
            by_cases hyx : y < x
            · have hf := fstLt_some (X := high) (Y := low) hlt (by rw [hx'.out, hy'.out]; exact hyx) hno.out
              have h1 := Lib.hid (rebE_arg hB'.out hE'.out hlen'.out hf)
              clear hf
              go_wp2
              go_quiet (fail)
              go_wp2
              go_ret3
              exact reb_fail h1.out (by decide) (reb_N0 h1.out (by decide)) (below_drewN' hbw _)
            · go_wp2
              go_quiet (fail)
              go_wp2
              go_roundw
              case rel => exact ⟨k + 1, by omega, by go_num, below_drewN' hbw _, hg, Lib.hid fun j h => by
                by_cases hjk : j = k
                · subst hjk; rw [hx'.out, hy'.out]; omega
                · exact hno.out j (by omega)⟩
              case measure => simp [intOf]; omega
          · obtain rfl : k = low.length := by omega
            have hf1 := Lib.hid (fstLt_none hno.out)
            have hbz := hbw.size
            clear hno
            go_wp2
            generalize wr = w0 at hbw hg hbz ⊢
            clear wr
            go_loopw [49] (fun i wr => ∃ k : Nat, k ≤ low.length ∧ i = .int .i64 k ∧ Below w.heap.size w wr ∧ Hid (Ints wr (.slice gA (groundL high rub).length gc) (groundL high rub)) ∧ Hid (∀ j, j < k → low.getD j 0 ≤ (groundL high rub).getD j 0)) (fun i _ => low.length - (intOf i).toNat)
            case atStart => exact ⟨0, Nat.zero_le _, rfl, hbw, hg, Lib.hid fun j h => absurd h (by omega)⟩
            case round =>
              obtain ⟨k, hk, rfl, hbv, hgv, hno⟩ := hrel
              clear hbw hg hbz
              by_cases hlt : k < low.length
              · have hlt' : k < (groundL high rub).length := by have := hgl'.out; omega
                obtain ⟨b1, o1, rfl, hk1⟩ := looks (hl0.out.below hbv) hlt
                obtain ⟨b2, o2, rfl, hk2⟩ := looks hgv.out hlt'
                obtain ⟨x, hx⟩ : ∃ x, low.getD k 0 = x := ⟨_, rfl⟩
                obtain ⟨y, hy⟩ : ∃ y, (groundL high rub).getD k 0 = y := ⟨_, rfl⟩
                rw [hx] at hk1
                rw [hy] at hk2
                have i1 : (0 : Int) ≤ (k : Int) := by omega
                have i2 : (k : Int) < (low.length : Int) := by omega
                have i3 : (k : Int) < ((groundL high rub).length : Int) := by omega
                have hx' := Lib.hid hx
                have hy' := Lib.hid hy
                clear hy hx
                by_cases hyx : y < x
                · have hf := fstLt_some (X := groundL high rub) (Y := low) hlt (by rw [hx'.out, hy'.out]; exact hyx) hno.out
                  have h1 := Lib.hid (rebE_none hB'.out hE'.out hlen'.out hf1.out hf)
                  clear hf
                  go_wp2
                  go_quiet (fail)
                  go_wp2
                  go_ret3
                  exact reb_fail h1.out.1 (by decide) h1.out.2 (below_drewN' hbv _)
                · go_wp2
                  go_quiet (fail)
                  go_wp2
                  go_roundw
                  case rel => exact ⟨k + 1, by omega, by go_num, below_drewN' hbv _, hgv, Lib.hid fun j h => by
                    by_cases hjk : j = k
                    · subst hjk; rw [hx'.out, hy'.out]; omega
                    · exact hno.out j (by omega)⟩
                  case measure => simp [intOf]; omega
              · obtain rfl : k = low.length := by omega
                have hf2 := fstLt_none hno.out
                have h1 := Lib.hid (rebE_ok hB'.out hE'.out hlen'.out hf1.out hf2)
                have hbz := hbv.size
                clear hno hf2 hgv
                go_wp2_with (first | (go_at_call 10; ((with_reducible refine (pf_ros_Under _ _ high rub _ (hh0.out.below hbv) (hr0.out.below hbv) 0 hE'.out).mono ?_); rintro e w' ⟨vu, rfl, hb1, ho1, -⟩; have ho1' := Lib.hid (ho1 rfl); clear ho1)))
                go_ret3
                exact reb_done h1.out (hbv.trans (hb1.mono hbz)) (own_base ho1'.out hbz)
      · have h1 := Lib.hid (rebE_len hB hE hlen)
        have hlt1 : ((low.length : Int) != (high.length : Int)) = true := by simp; omega
        have hB' := Lib.hid hB
        have hE' := Lib.hid hE
        have hlen' := Lib.hid hlen
        clear hlen hE hB
        go_enter Try.func5, Try.ntmps5
        go_wp2_with (first | (go_at_call 8; ((with_reducible refine (pf_ros_Check _ low _ hl0.out true hB'.out).mono ?_); rintro e w' ⟨rfl, rfl⟩)) | (go_at_call 9; ((with_reducible refine (pf_ros_Grind _ _ high rub _ hh0.out hr0.out 0 hE'.out).mono ?_); rintro e w' ⟨vg, rfl, hb1, ho1, -⟩; obtain ⟨gA, gc, rfl, -, -, -, -⟩ := Arr.of_own (ho1 rfl); clear ho1)))
        go_ret3
        exact reb_fail h1.out (by decide) (reb_N0 h1.out (by decide)) hb1
    · have h1 := Lib.hid (rebE_both hB hE hE0)
      have h6 : E ≠ 6 := by rw [← hE]; exact bothE_six high rub
      have hne : (E != 0) = true := by simpa using hE0
      have hE0' := Lib.hid hE0
      have h6' := Lib.hid h6
      clear hE0 h6
      have hB' := Lib.hid hB
      have hE' := Lib.hid hE
      clear hE hB
      go_enter Try.func5, Try.ntmps5
      go_wp2_with (first | (go_at_call 8; ((with_reducible refine (pf_ros_Check _ low _ hl0.out true hB'.out).mono ?_); rintro e w' ⟨rfl, rfl⟩)) | (go_at_call 9; ((with_reducible refine (pf_ros_Grind _ _ high rub _ hh0.out hr0.out E hE'.out).mono ?_); rintro e w' ⟨vg, rfl, hb1, -, hv⟩; obtain rfl := hv hE0'.out)))
      go_ret3
      exact reb_fail h1.out hE0'.out (reb_N0 h1.out h6'.out) hb1
set_option maxRecDepth 100000 in
set_option maxHeartbeats 2000000 in
theorem pf_r9_Rebuild (vl vh vr : Value) (low high rub : List Int) (w : World) (hl : Ints w vl low) (hh : Ints w vh high) (hr : Ints w vr rub) :
    Calls Try.prog 6 #[vl, vh, vr] w (RebPost w low high rub) := by
  have hl0 := Lib.hid hl
  have hh0 := Lib.hid hh
  have hr0 := Lib.hid hr
  obtain ⟨A, c, rfl, hlc, hcm, _, _⟩ := hl
  obtain ⟨A', c', rfl, hlc', hcm', _, _⟩ := hh
  obtain ⟨A2, c2, rfl, _, _, _, _⟩ := hr
  unfold maxLen at hcm hcm'
  obtain ⟨B, hB⟩ : ∃ B, rosOk low = B := ⟨_, rfl⟩
  obtain ⟨C, hC⟩ : ∃ B, rosOk high = B := ⟨_, rfl⟩
  obtain ⟨D, hD⟩ : ∃ B, rubOk rub high.length = B := ⟨_, rfl⟩
  cases B with
  | false =>
    have h1 := Lib.hid (rebE_low (high := high) (rub := rub) hB)
    have hB' := Lib.hid hB
    have hC' := Lib.hid hC
    have hD' := Lib.hid hD
    clear hD hC hB
    go_enter Try.func6, Try.ntmps6
    go_wp2_with (first | (go_at_call 11; ((with_reducible refine (pf_r3_Check _ low _ hl0.out false hB'.out).mono ?_); rintro e w' ⟨rfl, rfl⟩)))
    go_ret3
    exact reb_fail h1.out (by decide) (reb_N0 h1.out (by decide)) (Below.refl _ _)
  | true =>
    cases C with
    | false =>
      have h1 := Lib.hid (rebE_both (rub := rub) (E := 30) hB (by unfold bothE; rw [hC]; rfl) (by decide))
      have hB' := Lib.hid hB
      have hC' := Lib.hid hC
      have hD' := Lib.hid hD
      clear hD hC hB
      go_enter Try.func6, Try.ntmps6
      go_wp2_with (first | (go_at_call 11; ((with_reducible refine (pf_r3_Check _ low _ hl0.out true hB'.out).mono ?_); rintro e w' ⟨rfl, rfl⟩)) | (go_at_call 11; ((with_reducible refine (pf_r3_Check _ high _ hh0.out false hC'.out).mono ?_); rintro e w' ⟨rfl, rfl⟩)))
      go_ret3
      exact reb_fail h1.out (by decide) (reb_N0 h1.out (by decide)) (Below.refl _ _)
    | true =>
      cases D with
      | false =>
        have h1 := Lib.hid (rebE_both (rub := rub) (E := 31) hB (by unfold bothE; rw [hC, hD]; rfl) (by decide))
        have hB' := Lib.hid hB
        have hC' := Lib.hid hC
        have hD' := Lib.hid hD
        clear hD hC hB
        go_enter Try.func6, Try.ntmps6
        go_wp2_with (first | (go_at_call 11; ((with_reducible refine (pf_r3_Check _ low _ hl0.out true hB'.out).mono ?_); rintro e w' ⟨rfl, rfl⟩)) | (go_at_call 11; ((with_reducible refine (pf_r3_Check _ high _ hh0.out true hC'.out).mono ?_); rintro e w' ⟨rfl, rfl⟩)) | (go_at_call 12; ((with_reducible refine (pf_r3_CheckRubber _ rub high.length _ hr0.out false hD'.out).mono ?_); rintro e w' ⟨rfl, rfl⟩)))
        go_ret3
        exact reb_fail h1.out (by decide) (reb_N0 h1.out (by decide)) (Below.refl _ _)
      | true =>
        have hE : bothE high rub = 0 := by unfold bothE; rw [hC, hD]; rfl
        by_cases hlen : low.length = high.length
        · have hlt1 : ((low.length : Int) != (high.length : Int)) = false := by simp [hlen]
          have hgl : (groundL high rub).length = low.length := by rw [groundL_length, hlen]
          have hU := under_ok hC hD
          have hUl : rubOk rub (underL high rub).length = true := by rw [underL_length]; exact hD
          have hLift : ∀ W v1 v2, Ints W v1 (underL high rub) → Ints W v2 rub → Calls Try.prog 14 #[v1, v2] W fun e w' => ∃ v', e = .returned v' ∧ Below W.heap.size W w' ∧ w'.ownsRow W.heap.size 3 1 v' (groundL high rub).length ((groundL high rub).map vint) := fun W v1 v2 h1 h2 => pf_Lifted v1 v2 (underL high rub) rub W h1 h2 hU hUl
          have hB' := Lib.hid hB
          have hC' := Lib.hid hC
          have hD' := Lib.hid hD
          have hE' := Lib.hid hE
          have hlen' := Lib.hid hlen
          have hgl' := Lib.hid hgl
          have hLift' := Lib.hid hLift
          clear hLift hgl hlen hE hD hC hB
          clear hU hUl
          go_enter Try.func6, Try.ntmps6
          go_wp2_with (first | (go_at_call 11; ((with_reducible refine (pf_r3_Check _ low _ hl0.out true hB'.out).mono ?_); rintro e w' ⟨rfl, rfl⟩)) | (go_at_call 11; ((with_reducible refine (pf_r3_Check _ high _ hh0.out true hC'.out).mono ?_); rintro e w' ⟨rfl, rfl⟩)) | (go_at_call 12; ((with_reducible refine (pf_r3_CheckRubber _ rub high.length _ hr0.out true hD'.out).mono ?_); rintro e w' ⟨rfl, rfl⟩)))
          go_loopw [12] (fun i wr => ∃ k : Nat, k ≤ low.length ∧ i = .int .i64 k ∧ Below w.heap.size w wr ∧ Hid (∀ j, j < k → low.getD j 0 ≤ high.getD j 0)) (fun i _ => low.length - (intOf i).toNat)
          case atStart => exact ⟨0, Nat.zero_le _, rfl, Below.refl _ _, Lib.hid fun j h => absurd h (by omega)⟩
          case round =>
            obtain ⟨k, hk, rfl, hbw, hno⟩ := hrel
            by_cases hlt : k < low.length
            · have hlt' : k < high.length := by have := hlen'.out; omega
              obtain ⟨b1, o1, rfl, hk1⟩ := looks (hl0.out.below hbw) hlt
              obtain ⟨b2, o2, rfl, hk2⟩ := looks (hh0.out.below hbw) hlt'
              obtain ⟨x, hx⟩ : ∃ x, low.getD k 0 = x := ⟨_, rfl⟩
              obtain ⟨y, hy⟩ : ∃ y, high.getD k 0 = y := ⟨_, rfl⟩
              rw [hx] at hk1
              rw [hy] at hk2
              have i1 : (0 : Int) ≤ (k : Int) := by omega
              have i2 : (k : Int) < (low.length : Int) := by omega
              have i3 : (k : Int) < (high.length : Int) := by omega
              have hx' := Lib.hid hx
              have hy' := Lib.hid hy
              clear hy hx
              by_cases hyx : y < x
              · have hf := fstLt_some (X := high) (Y := low) hlt (by rw [hx'.out, hy'.out]; exact hyx) hno.out
                have h1 := Lib.hid (rebE_arg hB'.out hE'.out hlen'.out hf)
                clear hf
                go_wp2
                go_quiet (fail)
                go_wp2
                go_ret3
                exact reb_fail h1.out (by decide) (reb_N0 h1.out (by decide)) (below_drewN' hbw _)
              · go_wp2
                go_quiet (fail)
                go_wp2
                go_roundw
                case rel => exact ⟨k + 1, by omega, by go_num, below_drewN' hbw _, Lib.hid fun j h => by
                  by_cases hjk : j = k
                  · subst hjk; rw [hx'.out, hy'.out]; omega
                  · exact hno.out j (by omega)⟩
                case measure => simp [intOf]; omega
            · obtain rfl : k = low.length := by omega
              have hf1 := Lib.hid (fstLt_none hno.out)
              have hbz := hbw.size
              clear hno
              go_wp2_with (first | (go_at_call 13; ((with_reducible refine (pf_Below _ _ high rub _ (hh0.out.below hbw) (hr0.out.below hbw) hC'.out hD'.out).mono ?_); rintro e w' ⟨vu, rfl, hb1, ho1⟩; have hB1 := hbw.trans (hb1.mono hbz); have ho1' := Lib.hid (own_base ho1 hbz); have hz1 := hB1.size; clear ho1 hb1 hbw hbz)) | (go_at_call 14; ((with_reducible refine (hLift'.out _ _ _ (Arr.of_own ho1'.out) (hr0.out.below hB1)).mono ?_); rintro e w' ⟨vg, rfl, hb2, ho2⟩; have hB2 := hB1.trans (hb2.mono hz1); have ho1' := Lib.hid (own_below ho1'.out hb2); obtain ⟨gA, gc, rfl, -, -, -, -⟩ := Arr.of_own ho2; have ho2' := Lib.hid (show Ints _ (.slice gA (groundL high rub).length gc) (groundL high rub) from Arr.of_own ho2); clear ho2 hb2 hB1 hz1)))
              generalize w' = w0 at hB2 ho1' ho2' ⊢
              clear w' wr
              go_loopw [15] (fun i wr => ∃ k : Nat, k ≤ low.length ∧ i = .int .i64 k ∧ Below w.heap.size w wr ∧ Hid (wr.ownsRow w.heap.size 3 1 vu (underL high rub).length ((underL high rub).map vint)) ∧ Hid (Ints wr (.slice gA (groundL high rub).length gc) (groundL high rub)) ∧ Hid (∀ j, j < k → low.getD j 0 ≤ (groundL high rub).getD j 0)) (fun i _ => low.length - (intOf i).toNat)
              case atStart => exact ⟨0, Nat.zero_le _, rfl, hB2, ho1', ho2', Lib.hid fun j h => absurd h (by omega)⟩
              case round =>
                obtain ⟨k, hk, rfl, hbv, huv, hgv, hno⟩ := hrel
                clear hB2 ho1' ho2'
                by_cases hlt : k < low.length
                · have hlt' : k < (groundL high rub).length := by have := hgl'.out; omega
                  obtain ⟨b1, o1, rfl, hk1⟩ := looks (hl0.out.below hbv) hlt
                  obtain ⟨b2, o2, rfl, hk2⟩ := looks hgv.out hlt'
                  obtain ⟨x, hx⟩ : ∃ x, low.getD k 0 = x := ⟨_, rfl⟩
                  obtain ⟨y, hy⟩ : ∃ y, (groundL high rub).getD k 0 = y := ⟨_, rfl⟩
                  rw [hx] at hk1
                  rw [hy] at hk2
                  have i1 : (0 : Int) ≤ (k : Int) := by omega
                  have i2 : (k : Int) < (low.length : Int) := by omega
                  have i3 : (k : Int) < ((groundL high rub).length : Int) := by omega
                  have hx' := Lib.hid hx
                  have hy' := Lib.hid hy
                  clear hy hx
                  by_cases hyx : y < x
                  · have hf := fstLt_some (X := groundL high rub) (Y := low) hlt (by rw [hx'.out, hy'.out]; exact hyx) hno.out
                    have h1 := Lib.hid (rebE_none hB'.out hE'.out hlen'.out hf1.out hf)
                    clear hf
                    go_wp2
                    go_quiet (fail)
                    go_wp2
                    go_ret3
                    exact reb_fail h1.out.1 (by decide) h1.out.2 (below_drewN' hbv _)
                  · go_wp2
                    go_quiet (fail)
                    go_wp2
                    go_roundw
                    case rel => exact ⟨k + 1, by omega, by go_num, below_drewN' hbv _, huv, hgv, Lib.hid fun j h => by
                      by_cases hjk : j = k
                      · subst hjk; rw [hx'.out, hy'.out]; omega
                      · exact hno.out j (by omega)⟩
                    case measure => simp [intOf]; omega
                · obtain rfl : k = low.length := by omega
                  have hf2 := fstLt_none hno.out
                  have h1 := Lib.hid (rebE_ok hB'.out hE'.out hlen'.out hf1.out hf2)
                  clear hno hf2 hgv
                  go_wp2
                  go_ret3
                  exact reb_done h1.out hbv huv.out
        · have h1 := Lib.hid (rebE_len hB hE hlen)
          have hlt1 : ((low.length : Int) != (high.length : Int)) = true := by simp; omega
          have hB' := Lib.hid hB
          have hC' := Lib.hid hC
          have hD' := Lib.hid hD
          have hE' := Lib.hid hE
          have hlen' := Lib.hid hlen
          clear hlen hE hD hC hB
          go_enter Try.func6, Try.ntmps6
          go_wp2_with (first | (go_at_call 11; ((with_reducible refine (pf_r3_Check _ low _ hl0.out true hB'.out).mono ?_); rintro e w' ⟨rfl, rfl⟩)) | (go_at_call 11; ((with_reducible refine (pf_r3_Check _ high _ hh0.out true hC'.out).mono ?_); rintro e w' ⟨rfl, rfl⟩)) | (go_at_call 12; ((with_reducible refine (pf_r3_CheckRubber _ rub high.length _ hr0.out true hD'.out).mono ?_); rintro e w' ⟨rfl, rfl⟩)))
          go_ret3
          exact reb_fail h1.out (by decide) (reb_N0 h1.out (by decide)) (Below.refl _ _)
end Go.Proofs.Ytaifechmeagkhaa
