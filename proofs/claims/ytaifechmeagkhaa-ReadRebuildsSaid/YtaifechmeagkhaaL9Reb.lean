/- The law ReadRebuilds: its walk. -/
import Derived.Test.YtaifechmeagkhaaReb2
import Derived.Test.YtaifechmeagkhaaListAid
namespace Go.Proofs.Ytaifechmeagkhaa
open Go.RowKit
set_option linter.unusedVariables false
set_option linter.unusedSimpArgs false
theorem pf_l9_same (v v' : Value) (xs ys : List Int) (w : World) (hx : Ints w v xs) (hy : Ints w v' ys) :
    Calls Try.prog 7 #[v, v'] w fun e w' => e = .returned (.bool (xs == ys)) ∧ ∃ n, w' = w.drewN n := by
  have hx' := Lib.hid hx
  have hy' := Lib.hid hy
  clear hy hx
  go_enter Try.func7, Try.ntmps7
  go_wp2_with (first | (go_at_call 15; ((with_reducible refine (pf_SameInts _ _ xs ys _ hx'.out hy'.out).mono ?_); rintro e w' ⟨rfl, n, rfl⟩)))
  go_ret
  exact ⟨rfl, n, rfl⟩
theorem l9_same_true (v v' : Value) (xs : List Int) (w : World) (hx : Ints w v xs) (hy : Ints w v' xs) :
    Calls Try.prog 7 #[v, v'] w fun e w' => e = .returned (.bool true) ∧ ∃ n, w' = w.drewN n := by
  have h := pf_l9_same v v' xs xs w hx hy
  rwa [show (xs == xs) = true by simp] at h
theorem slice_form {w : World} {base : Nat} {e : TypeId} {v : Value} {n : Nat} {xs : List Value} (h : w.ownsRow base e 1 v n xs) : ∃ A c, v = .slice A n c ∧ c ≤ maxLen ∧ (0 < n → ∃ g, A = some ⟨g, 0, none⟩ ∧ base ≤ g ∧ g < w.heap.size) := by
  rcases h.2 with ⟨rfl, rfl⟩ | ⟨g, cap, cur, rfl, hb, hg, hnc, hcm, hs, ht⟩
  · exact ⟨none, 0, rfl, Nat.zero_le _, fun h => absurd h (by omega)⟩
  · exact ⟨_, cap, rfl, hcm, fun _ => ⟨g, rfl, hb, (Array.getElem?_eq_some_iff.1 hg).1⟩⟩
set_option maxRecDepth 100000 in
set_option maxHeartbeats 2000000 in
theorem walk_ReadRebuilds (low high rub : List Int) (vl vh vr : Value) (w : World) (hl : Ints w vl low) (hh : Ints w vh high) (hr : Ints w vr rub) :
    Calls Try.prog 3 #[vl, vh, vr] w fun e w' => e = .returned (.bool true) ∧ Below w.heap.size w w' := by
  have hl0 := Lib.hid hl
  have hh0 := Lib.hid hh
  have hr0 := Lib.hid hr
  obtain ⟨A, c, rfl, hlc, hcm, _, _⟩ := hl
  obtain ⟨A', c', rfl, hlc', hcm', _, _⟩ := hh
  obtain ⟨A2, c2, rfl, _, _, _, _⟩ := hr
  unfold maxLen at hcm hcm'
  by_cases g1 : 120 < low.length
  · have g1' := Lib.hid (decide_eq_true g1)
    clear g1
    go_enter Try.func3, Try.ntmps3
    go_wp2_with (first | (go_at_call 4; ((with_reducible refine (pf_r3_Great _ low _ hl0.out).mono ?_); rintro e w' ⟨rfl, rfl⟩; rw [g1'.out])))
    go_ret
    exact ⟨rfl, Below.refl _ _⟩
  · have g1' := Lib.hid (decide_eq_false g1)
    clear g1
    by_cases g2 : 120 < high.length
    · have g2' := Lib.hid (decide_eq_true g2)
      clear g2
      go_enter Try.func3, Try.ntmps3
      go_wp2_with (first | (go_at_call 4; ((with_reducible refine (pf_r3_Great _ low _ hl0.out).mono ?_); rintro e w' ⟨rfl, rfl⟩; rw [g1'.out])) | (go_at_call 4; ((with_reducible refine (pf_r3_Great _ high _ hh0.out).mono ?_); rintro e w' ⟨rfl, rfl⟩; rw [g2'.out])))
      go_ret
      exact ⟨rfl, Below.refl _ _⟩
    · have g2n : high.length ≤ 120 := by omega
      have g2' := Lib.hid (decide_eq_false g2)
      clear g2
      by_cases g3 : 120 < rub.length
      · have g3' := Lib.hid (decide_eq_true g3)
        clear g3
        go_enter Try.func3, Try.ntmps3
        go_wp2_with (first | (go_at_call 4; ((with_reducible refine (pf_r3_Great _ low _ hl0.out).mono ?_); rintro e w' ⟨rfl, rfl⟩; rw [g1'.out])) | (go_at_call 4; ((with_reducible refine (pf_r3_Great _ high _ hh0.out).mono ?_); rintro e w' ⟨rfl, rfl⟩; rw [g2'.out])) | (go_at_call 4; ((with_reducible refine (pf_r3_Great _ rub _ hr0.out).mono ?_); rintro e w' ⟨rfl, rfl⟩; rw [g3'.out])))
        go_ret
        exact ⟨rfl, Below.refl _ _⟩
      · have g3' := Lib.hid (decide_eq_false g3)
        clear g3
        have hL : (rebL low high rub).length ≤ 120 := by unfold rebL; split <;> simp [underL_length, g2n]
        go_enter Try.func3, Try.ntmps3
        go_wp2_with (first | (go_at_call 4; ((with_reducible refine (pf_r3_Great _ low _ hl0.out).mono ?_); rintro e w' ⟨rfl, rfl⟩; rw [g1'.out])) | (go_at_call 4; ((with_reducible refine (pf_r3_Great _ high _ hh0.out).mono ?_); rintro e w' ⟨rfl, rfl⟩; rw [g2'.out])) | (go_at_call 4; ((with_reducible refine (pf_r3_Great _ rub _ hr0.out).mono ?_); rintro e w' ⟨rfl, rfl⟩; rw [g3'.out])) | (at_builtin; go_must (refine wpList_appI rfl _ _ 22 rfl w.heap.size 3 elemInt _ [] rfl (own_empty _ _ _ (Nat.le_refl _)) _ high rfl ?c1 ?c2 ?c3 ?_)))
        case c1 => exact hh0.out.below (alc1 _ _)
        case c2 => simp; omega
        case c3 => simp
        intro v1 w1 h1 h2 h3 h4
        have hbw : Below w.heap.size w w1 := (alc1 _ _).trans h2
        have ho1 : Hid (Ints w1 v1 high) := Lib.hid (Arr.of_own (by simpa using h1))
        clear h1 h2 h3 h4
        have hz1 := hbw.size
        go_wp2_with (first | (go_at_call 5; ((with_reducible refine (pf_Rebuild _ _ _ low high rub _ (hl0.out.below hbw) ho1.out (hr0.out.below hbw)).mono ?_); rintro e w' ⟨v2, rfl, hb2, hu2⟩; have hB2 := hbw.trans (hb2.mono hz1); have hu2' := Lib.hid hu2; obtain ⟨rA, rc, rfl, hrc, hrg⟩ := slice_form hu2; have hrg' := Lib.hid hrg; have hz2 := hb2.size; clear hu2 hrg)) | (go_at_call 6; ((with_reducible refine (pf_r9_Rebuild _ _ _ low high rub _ (hl0.out.below hB2) (hh0.out.below hB2) (hr0.out.below hB2)).mono ?_); rintro e w' ⟨v3, rfl, hb3, hu3⟩; have hu2' := Lib.hid (own_below hu2'.out hb3); have hu3' := Lib.hid hu3; have hB3 := hb2.trans (hb3.mono hz2); clear hu3 hb2 hb3 hB2 hz2)) | (go_at_call 7; ((with_reducible refine (l9_same_true _ _ (rebL low high rub) _ (Arr.of_own hu2'.out) (Arr.of_own hu3'.out)).mono ?_); rintro e w' ⟨rfl, nd, rfl⟩)))
        have hB4 := below_drewN' hB3 nd
        have ho4 : Hid (World.ownsRow _ _ _ _ _ _ _) := Lib.hid (own_drewN hu2'.out nd)
        clear hu2' hu3' hB3
        generalize rebL low high rub = L at hL ho4 hrg' ⊢
        go_loopw [60] (fun i wr => ∃ k : Nat, k ≤ L.length ∧ i = .int .i64 k ∧ Below w1.heap.size w1 wr ∧ Hid (wr.ownsRow w1.heap.size 3 1 (.slice rA L.length rc) L.length ((part (fun _ => -7) L k).map vint))) (fun i _ => L.length - (intOf i).toNat)
        case atStart => exact ⟨0, Nat.zero_le _, rfl, hB4, by rw [part_zero]; exact ho4⟩
        case round =>
          obtain ⟨k, hk, rfl, hb, hown⟩ := hrel
          clear hB4 ho4
          by_cases hlt : k < L.length
          · obtain ⟨g, rfl, hg, _⟩ := hrg'.out (by omega)
            have hck := own_cell hown.out (part_length _ _ _) (part_get (fun _ => -7) L k hlt)
            have hfr := hown.out.frozenAt k
            have hset := part_set (fun _ => -7) L k hlt
            generalize L[k] = x at hck hset
            have hset' := Lib.hid hset
            clear hset
            go_wp2
            go_roundw
            case rel => exact ⟨k + 1, by omega, by go_num, hb.setCell (p := ⟨g, k, none⟩) hg _, Lib.hid (by have h := own_put hown.out k (-7); rw [hset'.out] at h; exact h)⟩
            case measure => simp [intOf]; omega
          · obtain rfl : k = L.length := by omega
            go_wp2_with (first | (go_at_call 7; ((with_reducible refine (l9_same_true _ _ high _ (ho1.out.below hb) (hh0.out.below (hbw.trans (hb.mono hz1)))).mono ?_); rintro e w' ⟨rfl, nd2, rfl⟩)))
            go_ret
            exact ⟨rfl, below_drewN' (hbw.trans (hb.mono hz1)) nd2⟩
theorem law_ReadRebuilds (a0 : List Int) (x0 : Value) (a1 : List Int) (x1 : Value) (a2 : List Int) (x2 : Value) (w : World) (w0 : Ints w x0 a0 ∧ ∀ n ∈ a0, (Lit.int .i64 n).wf = true) (w1 : Ints w x1 a1 ∧ ∀ n ∈ a1, (Lit.int .i64 n).wf = true) (w2 : Ints w x2 a2 ∧ ∀ n ∈ a2, (Lit.int .i64 n).wf = true) :
    Calls Try.prog 3 #[x0, x1, x2] w fun e w' => e = .returned (.bool true) ∧ Below w.heap.size w w' := walk_ReadRebuilds a0 a1 a2 x0 x1 x2 w w0.1 w1.1 w2.1
end Go.Proofs.Ytaifechmeagkhaa
