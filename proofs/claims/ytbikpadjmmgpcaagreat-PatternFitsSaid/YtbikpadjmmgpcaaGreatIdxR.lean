/- barleycornref04.Index: all holes of all plates. -/
import Derived.Test.YtbikpadjmmgpcaaGreatIdxP
import Derived.Test.YtbikpadjmmgpcaaGreatTRA
namespace Go.Proofs.YtbikpadjmmgpcaaGreat
open Go.RowKit Go.Shelf
set_option linter.unusedVariables false
set_option linter.unusedSimpArgs false
attribute [local go_sem] Oper.semAt_some
attribute [local go_sem ↓] Go.wp_at_zero Go.wp_at_succ
/-- The box of the least so far. -/
def LeastB (W : World) (B : Nat) (r : Rat) : Prop := Rsz r 40 ∧ ∃ s A n c A' n' c', W.heap[B]? = some (.cells #[.bool s, .slice A n c, .slice A' n' c'] 61) ∧ RatT .i64 W (.agg #[.bool s, .slice A n c, .slice A' n' c']) r
theorem LeastB.le {W W' : World} {B : Nat} {r : Rat} (h : LeastB W B r) (hb : Le W W') : LeastB W' B r := by
  obtain ⟨h0, s, A, n, c, A', n', c', h1, h2⟩ := h
  exact ⟨h0, s, A, n, c, A', n', c', box_later hb h1, h2.le hb⟩
theorem LeastB.lt {W : World} {B : Nat} {r : Rat} (h : LeastB W B r) : B < W.heap.size := by
  obtain ⟨h0, s, A, n, c, A', n', c', h1, h2⟩ := h
  exact (Array.getElem?_eq_some_iff.1 h1).1
theorem idxE_any {ps : List Int} {num den : Int} {j : Nat} (hb : ¬ 16 < ps.length) (hj : j < ps.length) (h : within ps[j] 1 360 = false) : idxE ps num den = 2 := by
  have ha : idxArg ps num den = false := by
    unfold idxArg
    have : (ps.any fun n => !within n 1 360) = true := List.any_eq_true.2 ⟨ps[j], List.getElem_mem hj, by rw [h]; rfl⟩
    rw [this]
    simp
  unfold idxE
  rw [if_neg hb, ha]
  rfl
theorem idxE_fine {ps : List Int} {num den : Int} (hb : ¬ 16 < ps.length) (h0 : 0 < ps.length) (h1 : within den 1 1000 = true) (h2 : within num 0 den = true) (h : ∀ j (hj : j < ps.length), within ps[j] 1 360 = true) : idxE ps num den = 0 := by
  have ha : idxArg ps num den = true := by
    unfold idxArg
    have : (ps.any fun n => !within n 1 360) = false := List.any_eq_false.2 fun x hx => by
      obtain ⟨j, hj, rfl⟩ := List.mem_iff_getElem.1 hx
      rw [h j hj]
      simp
    rw [this, h1, h2]
    simp [h0]
  unfold idxE
  rw [if_neg hb, ha]
  rfl
theorem idxE_arg {ps : List Int} {num den : Int} (hb : ¬ 16 < ps.length) (h : idxArg ps num den = false) : idxE ps num den = 2 := by
  unfold idxE
  rw [if_neg hb, h]
  rfl
theorem over_far {num den n k : Nat} {z D : Int} (hz : z = (farN num den n k : Int)) (hD : D = ((n * den : Nat) : Int)) : (z : Rat) / (D : Rat) = farR num den n k := by
  rw [hz, hD]
  rfl
theorem pf_n_Out_fit (r : Rat) (v : Value) (w : World) (h : RatT .i64 w v r) (hs : Rsz r 40) : Calls Tryz.prog 29 #[v] w fun e w' => ∃ v', e = .returned (.tuple #[v', .int .i64 0]) ∧ Le w w' ∧ FracT w' v' r := by
  refine (pf_n_Out (fun _ => True) (fun _ => True) r v w (Up.any _) h).mono ?_
  intro e w' hp
  have := hp.res
  rw [outR_ok hs] at this
  obtain ⟨hle, v', c, rfl, hf, rfl⟩ := this
  exact ⟨v', rfl, hle, hf⟩
set_option maxRecDepth 100000 in
set_option maxHeartbeats 4000000 in
theorem pf_n_Index (ps : List Int) (num den : Int) (v : Value) (w : World) (hv : Ints w v ps) :
    Calls Tryz.prog 8 #[v, .int .i64 num, .int .i64 den] w (IdxPost ps num den w) := by
  have hv0 := hv
  obtain ⟨A, c, rfl, hlc, hcm, _, hr⟩ := hv
  unfold maxLen at hcm
  clear hr
  obtain ⟨W0, hW0, hle, k0⟩ : ∃ W0, w.alloc (.cells #[.bool false, .slice none 0 0, .bool false, .slice none 0 0] 34) = W0 ∧ Le w W0 ∧ W0.heap[w.heap.size]? = some (.cells #[.bool false, .slice none 0 0, .bool false, .slice none 0 0] 34) := ⟨_, rfl, le_alloc _ _, alc_at _ _⟩
  obtain ⟨f0, f1, f2, f3⟩ := cells4 k0
  have g0 := frozen00 k0 0
  have g1 := frozen00 k0 1
  have g2 := frozen00 k0 2
  have g3 := frozen00 k0 3
  have hz := cells4 (heap_set4 (u0 := .bool false) (u1 := .slice none 0 0) (u2 := .bool false) (u3 := .slice none 0 0) k0)
  have hlez := le_set4 (u0 := .bool false) (u1 := .slice none 0 0) (u2 := .bool false) (u3 := .slice none 0 0) hle (Nat.le_refl _)
  by_cases hbig : 16 < ps.length
  · have e1 : idxE ps num den = 4 := by unfold idxE; rw [if_pos hbig]
    have hfin := IdxPost.bad e1 (by decide) hlez
    have hle' := Lib.hid hle
    have k0' := Lib.hid k0
    have e1' := Lib.hid e1
    have hfin' := Lib.hid hfin
    have hz' := Lib.hid hz
    have hlez' := Lib.hid hlez
    have hv0' := Lib.hid hv0
    clear hv0 hlez hz hfin e1 k0 hle
    go_enter Tryz.func8, Tryz.ntmps8
    go_wp2_with (fail)
    clear hW0
    obtain ⟨d0, d1, d2, d3⟩ := hz'.out
    exact bodyPost_ret (v := .tuple #[.int .i64 0, .int .i64 0, .agg #[.bool false, .slice none 0 0, .bool false, .slice none 0 0], .int .i64 4]) (by simp [results, Tryz.results8, go_sem, d0, d1, d2, d3]) rfl hfin'.out
  · have hfin : idxE ps num den = 2 → _ := fun e1 => IdxPost.bad e1 (by decide) hlez
    obtain ⟨X2, hX2⟩ : ∃ X, within den 1 1000 = X := ⟨_, rfl⟩
    obtain ⟨X3, hX3⟩ : ∃ X, within num 0 den = X := ⟨_, rfl⟩
    by_cases h0 : ps.length = 0
    · have hfin2 := hfin (idxE_arg hbig (by unfold idxArg; rw [h0]; rfl))
      have hps : (ps.length : Int) = 0 := by omega
      rw [h0]
      have hle' := Lib.hid hle
      have k0' := Lib.hid k0
      have hfin' := Lib.hid hfin
      have hz' := Lib.hid hz
      have hlez' := Lib.hid hlez
      have hX2' := Lib.hid hX2
      have hX3' := Lib.hid hX3
      have h0' := Lib.hid h0
      have hps' := Lib.hid hps
      have hv0' := Lib.hid hv0
      have hfin2' := Lib.hid hfin2
      clear hfin2 hv0 hps h0 hX3 hX2 hlez hz hfin k0 hle
      go_enter Tryz.func8, Tryz.ntmps8
      go_wp2_with (fail)
      clear hW0
      obtain ⟨d0, d1, d2, d3⟩ := hz'.out
      exact bodyPost_ret (v := .tuple #[.int .i64 0, .int .i64 0, .agg #[.bool false, .slice none 0 0, .bool false, .slice none 0 0], .int .i64 2]) (by simp [results, Tryz.results8, go_sem, d0, d1, d2, d3]) rfl hfin2'.out
    · have hl0 : ((ps.length : Int) == 0) = false := by rw [Bool.eq_false_iff]; intro h; simp at h; exact h0 (by rw [h]; rfl)
      have hl1 : ¬ ps.length = 0 := h0
      have hl2 : 0 < ps.length := by omega
      clear h0
      cases X2 with
      | false =>
        have hfin2 := hfin (idxE_arg hbig (by unfold idxArg; rw [hX2]; simp))
        have hle' := Lib.hid hle
        have k0' := Lib.hid k0
        have hfin' := Lib.hid hfin
        have hz' := Lib.hid hz
        have hlez' := Lib.hid hlez
        have hX3' := Lib.hid hX3
        have hv0' := Lib.hid hv0
        have hfin2' := Lib.hid hfin2
        clear hfin2 hv0 hX3 hlez hz hfin k0 hle
        go_enter Tryz.func8, Tryz.ntmps8
        go_wp2_with (first | (go_at_call 22; ((with_reducible refine (pf_within_barleycornref04 _ _ _ _).mono ?_); rintro e w' ⟨rfl, rfl⟩; rw [hX2])))
        clear hW0
        obtain ⟨d0, d1, d2, d3⟩ := hz'.out
        exact bodyPost_ret (v := .tuple #[.int .i64 0, .int .i64 0, .agg #[.bool false, .slice none 0 0, .bool false, .slice none 0 0], .int .i64 2]) (by simp [results, Tryz.results8, go_sem, d0, d1, d2, d3]) rfl hfin2'.out
      | true =>
        cases X3 with
        | false =>
          have hfin2 := hfin (idxE_arg hbig (by unfold idxArg; rw [hX2, hX3]; simp))
          have hle' := Lib.hid hle
          have k0' := Lib.hid k0
          have hfin' := Lib.hid hfin
          have hz' := Lib.hid hz
          have hlez' := Lib.hid hlez
          have hv0' := Lib.hid hv0
          have hfin2' := Lib.hid hfin2
          clear hfin2 hv0 hlez hz hfin k0 hle
          go_enter Tryz.func8, Tryz.ntmps8
          go_wp2_with (first | (go_at_call 22; ((with_reducible refine (pf_within_barleycornref04 _ _ _ _).mono ?_); rintro e w' ⟨rfl, rfl⟩; first | rw [hX2] | rw [hX3])))
          clear hW0
          obtain ⟨d0, d1, d2, d3⟩ := hz'.out
          exact bodyPost_ret (v := .tuple #[.int .i64 0, .int .i64 0, .agg #[.bool false, .slice none 0 0, .bool false, .slice none 0 0], .int .i64 2]) (by simp [results, Tryz.results8, go_sem, d0, d1, d2, d3]) rfl hfin2'.out
        | true =>
          obtain ⟨la, lo, c', heq, hla, -, -, hcl⟩ := Ints.cells hv0 hl2
          injection heq with q1 q2 q3
          subst q1 q3
          clear q2
          have hX2' := within_iff.1 hX2
          have hX3' := within_iff.1 hX3
          obtain ⟨U, rfl⟩ : ∃ U : Nat, num = (U : Int) := ⟨num.toNat, by omega⟩
          obtain ⟨D, rfl⟩ : ∃ D : Nat, den = (D : Int) := ⟨den.toNat, by omega⟩
          have hle' := Lib.hid hle
          have k0' := Lib.hid k0
          have hfin' := Lib.hid hfin
          have hz' := Lib.hid hz
          have hlez' := Lib.hid hlez
          have hv0' := Lib.hid hv0
          have hcl' := Lib.hid hcl
          clear hcl hv0 hlez hz hfin k0 hle
          go_enter Tryz.func8, Tryz.ntmps8
          go_wp2_with (first | (go_at_call 22; ((with_reducible refine (pf_within_barleycornref04 _ _ _ _).mono ?_); rintro e w' ⟨rfl, rfl⟩; first | rw [hX2] | rw [hX3])))
          clear hW0
          go_loop [10] (fun ix => ∃ j : Nat, j ≤ ps.length ∧ ix = .int .i64 j ∧ Hid (∀ i (hi : i < ps.length), i < j → within ps[i] 1 360 = true)) (fun ix => ps.length - (intOf ix).toNat)
          case atStart => exact ⟨0, Nat.zero_le _, rfl, Lib.hid (fun i _ h => absurd h (Nat.not_lt_zero i))⟩
          case round =>
            obtain ⟨j, hj, rfl, hok⟩ := hrel
            by_cases hlt : j < ps.length
            · have hck : W0.cell? ⟨la, lo + j, none⟩ = some (.int .i64 ps[j]) := (hle'.out.cell (p := ⟨la, lo + j, none⟩) hla).trans (hcl'.out j hlt)
              obtain ⟨x, hx⟩ : ∃ x, ps[j] = x := ⟨_, rfl⟩
              obtain ⟨X4, hX4⟩ : ∃ X, within ps[j] 1 360 = X := ⟨_, rfl⟩
              have hbad : X4 = false → idxE ps (U : Int) (D : Int) = 2 := fun h => idxE_any hbig hlt (hX4.trans h)
              have hgood : X4 = true → ∀ i (hi : i < ps.length), i < j + 1 → within ps[i] 1 360 = true := fun h i hi hij => by
                by_cases hij2 : i = j
                · subst hij2; exact hX4.trans h
                · exact hok.out i hi (by omega)
              rw [hx] at hck hX4
              have hx' := Lib.hid hx
              have hbad' := Lib.hid hbad
              have hgood' := Lib.hid hgood
              clear hgood hbad hx
              cases X4 with
              | false =>
                have hfin2 := hfin'.out (hbad'.out rfl)
                have hfin2' := Lib.hid hfin2
                clear hfin2
                go_wp2_with (first | (go_at_call 22; ((with_reducible refine (pf_within_barleycornref04 _ _ _ _).mono ?_); rintro e w' ⟨rfl, rfl⟩; rw [hX4])))
                obtain ⟨d0, d1, d2, d3⟩ := hz'.out
                exact bodyPost_ret (v := .tuple #[.int .i64 0, .int .i64 0, .agg #[.bool false, .slice none 0 0, .bool false, .slice none 0 0], .int .i64 2]) (by simp [results, Tryz.results8, go_sem, d0, d1, d2, d3]) rfl hfin2'.out
              | true =>
                go_wp2_with (first | (go_at_call 22; ((with_reducible refine (pf_within_barleycornref04 _ _ _ _).mono ?_); rintro e w' ⟨rfl, rfl⟩; rw [hX4])))
                go_round
                case rel => exact ⟨j + 1, by omega, by go_num, Lib.hid (hgood'.out (by trivial))⟩
                case measure => simp [intOf]; omega
            · obtain rfl : j = ps.length := by omega
              have hE : idxE ps (U : Int) (D : Int) = 0 := idxE_fine hbig hl2 hX2 hX3 fun j hj => hok.out j hj hj
              obtain ⟨-, hl16, -, -, -, hps, -⟩ := idx_facts hE
              have hfin3 : idxF ps (U : Int) (D : Int) = idxL U D (ps.map Int.toNat) ps.length := rfl
              generalize hns : ps.map Int.toNat = ns at hfin3
              have hget : ∀ j (hj : j < ps.length), ∃ n : Nat, ps[j] = (n : Int) ∧ 1 ≤ n ∧ n ≤ 360 ∧ ns.getD j 0 = n := fun j hj => by
                obtain ⟨h1, h2⟩ := hps j hj
                have e : ps[j] = (ps[j].toNat : Int) := by omega
                exact ⟨ps[j].toNat, e, by omega, by omega, by rw [← hns]; exact natMap_get ps hj e⟩
              have hD1 : 1 ≤ D := by omega
              have hD2 : D ≤ 1000 := by omega
              have hUD : U ≤ D := by omega
              have hDz : (D : Int) ≠ 0 := by omega
              have hov := pf_n_Over (fun _ => True) (U : Int) (D : Int) W0 (Up.any _) (by omega) (by omega) (by omega) (by omega) hDz
              have hs0 : Rsz ((U : Rat) / (D : Rat)) 40 := over_sz hDz (by omega) (by omega) (by omega) (by omega)
              obtain ⟨R0, hR0⟩ : ∃ R, ((U : Int) : Rat) / ((D : Int) : Rat) = R := ⟨_, rfl⟩
              have hR0' : (U : Rat) / (D : Rat) = R0 := hR0
              rw [hR0] at hov
              rw [hR0'] at hs0
              have hstart : idxL U D ns 0 = (0, 0, R0) := by rw [← hR0']; rfl
              have hE' := Lib.hid hE
              have hps' := Lib.hid hps
              have hns' := Lib.hid hns
              have hget' := Lib.hid hget
              have hfin3' := Lib.hid hfin3
              have hov' := Lib.hid hov
              have hs0' := Lib.hid hs0
              have hR0' := Lib.hid hR0
              have hR0'' := Lib.hid hR0'
              have hstart' := Lib.hid hstart
              have hok' := Lib.hid hok
              clear hok hstart hR0' hR0 hs0 hov hfin3 hget hns hps hE
              clear hX2' hX3'
              go_wp2_with (fail)
              go_at_call 27
              refine hov'.out.mono ?_
              rintro e w1 ⟨v1, rfl, hle1, hr1⟩
              have hr0 := hr1
              obtain ⟨s1, A1, n1, c1, A2, n2, c2, rfl⟩ := hr1.qform
              obtain ⟨W2, hW2, hle2, k2⟩ : ∃ W2, w1.alloc (.cells #[.bool s1, .slice A1 n1 c1, .slice A2 n2 c2] 61) = W2 ∧ Le w1 W2 ∧ W2.heap[w1.heap.size]? = some (.cells #[.bool s1, .slice A1 n1 c1, .slice A2 n2 c2] 61) := ⟨_, rfl, le_alloc _ _, alc_at _ _⟩
              have hL0 : LeastB W2 w1.heap.size R0 := ⟨hs0'.out, _, _, _, _, _, _, _, k2, hr0.le hle2⟩
              have hle02 := hle1.trans hle2
              have hB1 : W0.heap.size ≤ w1.heap.size := hle1.size
              clear f0 f1 f2 f3 g0 g1 g2 g3
              have hle1' := Lib.hid hle1
              have hr1' := Lib.hid hr1
              have hr0' := Lib.hid hr0
              have hle2' := Lib.hid hle2
              have k2' := Lib.hid k2
              have hL0' := Lib.hid hL0
              have hle02' := Lib.hid hle02
              clear hle02 hL0 k2 hle2 hr0 hr1 hle1
              go_wp2_with (fail)
              clear hW2
              generalize hBq : w1.heap.size = Bq at hB1 hL0' k2'
              have hBq' := Lib.hid hBq
              clear hBq
              go_loopw [14, 11, 12] (fun ix a b wr => ∃ i : Nat, i ≤ ps.length ∧ ix = .int .i64 i ∧ ∃ t : IdxS, a = .int .i64 (t.1 : Nat) ∧ b = .int .i64 (t.2.1 : Nat) ∧ Hid (t = idxL U D ns i) ∧ t.1 ≤ 1000 ∧ t.2.1 ≤ 1000 ∧ Hid (Le W0 wr) ∧ Hid (LeastB wr Bq t.2.2)) (fun ix _ _ _ => ps.length - (intOf ix).toNat)
              case atStart => exact ⟨0, Nat.zero_le _, rfl, (0, 0, R0), rfl, rfl, Lib.hid hstart'.out.symm, Nat.zero_le _, Nat.zero_le _, hle02', hL0'⟩
              case round =>
                obtain ⟨i, hi, rfl, t, rfl, rfl, ht, ht1, ht2, hlw, hlb⟩ := hrel
                by_cases hlt : i < ps.length
                · obtain ⟨n, hn0, hn1, hn2, hn3⟩ := hget'.out i hlt
                  have hla0 : la < W0.heap.size := Nat.lt_of_lt_of_le hla hle'.out.size
                  have hckW : W0.cell? ⟨la, lo + i, none⟩ = some (.int .i64 (n : Int)) := by
                    rw [← hn0]
                    exact (hle'.out.cell (p := ⟨la, lo + i, none⟩) hla).trans (hcl'.out i hlt)
                  obtain ⟨P, hP⟩ : ∃ P, n * U = P := ⟨_, rfl⟩
                  have hPb : P ≤ 360000 := by rw [← hP]; exact Nat.le_trans (Nat.mul_le_mul hn2 (Nat.le_trans hUD hD2)) (by decide)
                  have e1 : (U : Int) * (n : Int) = (P : Int) := by rw [← hP, Nat.mul_comm]; simp
                  have e1' : (n : Int) * (U : Int) = (P : Int) := by rw [← hP]; simp
                  obtain ⟨DD, hDD⟩ : ∃ DD, n * D = DD := ⟨_, rfl⟩
                  have e3 : (n : Int) * (D : Int) = (DD : Int) := by rw [← hDD]; simp
                  have hDDb : DD ≤ 360000 := by rw [← hDD]; exact Nat.le_trans (Nat.mul_le_mul hn2 hD2) (by decide)
                  have hDD0 : 0 < DD := by rw [← hDD]; exact Nat.mul_pos (by omega) (by omega)
                  have hend : idxHoles U D i n (idxL U D ns i) (n + 1) = idxL U D ns (i + 1) := by
                    show _ = idxHoles U D i (ns.getD i 0) (idxL U D ns i) (ns.getD i 0 + 1)
                    rw [hn3]
                  have ht0 : t = idxHoles U D i n (idxL U D ns i) 0 := ht.out
                  obtain ⟨wo, hwo⟩ : ∃ wo, wo = wr := ⟨_, rfl⟩
                  rw [← hwo] at hlw hlb
                  subst hwo
                  have hn0' := Lib.hid hn0
                  have hn3' := Lib.hid hn3
                  have hP' := Lib.hid hP
                  have hDD' := Lib.hid hDD
                  have hend' := Lib.hid hend
                  have ht0' := Lib.hid ht0
                  clear ht0 hend hDD hP hn3 hn0
                  go_wp2
                  go_loopw [15, 11, 12] (fun kx a b wi => ∃ k : Nat, k ≤ n + 1 ∧ kx = .int .i64 k ∧ ∃ t : IdxS, a = .int .i64 (t.1 : Nat) ∧ b = .int .i64 (t.2.1 : Nat) ∧ Hid (t = idxHoles U D i n (idxL U D ns i) k) ∧ t.1 ≤ 1000 ∧ t.2.1 ≤ 1000 ∧ Hid (Le W0 wi) ∧ Hid (LeastB wi Bq t.2.2)) (fun kx _ _ _ => n + 1 - (intOf kx).toNat)
                  case atStart => exact ⟨0, Nat.zero_le _, rfl, t, rfl, rfl, ht0', ht1, ht2, hlw, hlb⟩
                  case round =>
                    obtain ⟨k, hk, rfl, t2, rfl, rfl, htt, hu1, hu2, hli, hlbi⟩ := hrel
                    have hck : wr.cell? ⟨la, lo + i, none⟩ = some (.int .i64 (n : Int)) := (hli.out.cell (p := ⟨la, lo + i, none⟩) hla0).trans hckW
                    by_cases hkn : k ≤ n
                    · obtain ⟨X, hX⟩ : ∃ X, k * D = X := ⟨_, rfl⟩
                      have e2 : (k : Int) * (D : Int) = (X : Int) := by rw [← hX]; simp
                      have hXb : X ≤ 361000 := by rw [← hX]; exact Nat.le_trans (Nat.mul_le_mul (show k ≤ 361 by omega) hD2) (by decide)
                      obtain ⟨R, hR⟩ : ∃ R, farR U D n k = R := ⟨_, rfl⟩
                      have hfar : farN U D n k = ((X : Int) - (P : Int)).natAbs := by unfold farN; rw [e2, e1']
                      have hsR : Rsz R 40 := by rw [← hR]; exact far_sz (by rw [hDD'.out]; exact hDD0) (by rw [hDD'.out]; omega) (by rw [hfar]; omega)
                      have hmax : ∃ z : Int, z = (((X : Int) - (P : Int)).natAbs : Int) ∧ -1000000 ≤ z ∧ z ≤ 1000000 ∧ ((X < P ∧ z = (P : Int) - (X : Int)) ∨ (P ≤ X ∧ z = (X : Int) - (P : Int))) := by
                        rcases Nat.lt_or_ge X P with h | h
                        · exact ⟨(P : Int) - X, by omega, by omega, by omega, .inl ⟨h, rfl⟩⟩
                        · exact ⟨(X : Int) - P, by omega, by omega, by omega, .inr ⟨h, rfl⟩⟩
                      obtain ⟨z, hz0, hz1, hz2, hz3⟩ := hmax
                      have hov2 := fun (W : World) => pf_n_Over (fun _ => True) z (DD : Int) W (Up.any _) (by omega) (by omega) (by omega) (by omega) (by omega)
                      have hzR : (z : Rat) / ((DD : Int) : Rat) = R := by rw [← hR]; exact over_far (by rw [hz0, hfar]) (by rw [hDD'.out])
                      simp only [hzR] at hov2
                      have hnxt : ∀ t3, t3 = idxHole U D i n t2 k → t3 = idxHoles U D i n (idxL U D ns i) (k + 1) := fun t3 h => by rw [h, htt.out]; rfl
                      have hnyes : R < t2.2.2 → idxHole U D i n t2 k = (i, k, R) := fun h => by unfold idxHole; rw [hR, if_pos h]
                      have hnno : ¬ R < t2.2.2 → idxHole U D i n t2 k = t2 := fun h => by unfold idxHole; rw [hR, if_neg h]
                      have hcz : 0 < R.den := R.den_pos
                      clear hfar hcz
                      have hX' := Lib.hid hX
                      have hR' := Lib.hid hR
                      have hz0' := Lib.hid hz0
                      have hov2' := Lib.hid hov2
                      have hzR' := Lib.hid hzR
                      have hnxt' := Lib.hid hnxt
                      have hnyes' := Lib.hid hnyes
                      have hnno' := Lib.hid hnno
                      have hsR' := Lib.hid hsR
                      clear hsR hnno hnyes hnxt hzR hov2 hz0 hR hX
                      rcases hz3 with ⟨hz4, hz5⟩ | ⟨hz4, hz5⟩
                      all_goals
                        subst hz5
                        first
                          | (have m1 : (X : Int) - (P : Int) < (P : Int) - (X : Int) := by omega
                             have m2 : ¬ (P : Int) - (X : Int) ≤ (X : Int) - (P : Int) := by omega
                             have m3 : -((X : Int) - (P : Int)) = (P : Int) - (X : Int) := by omega)
                          | (have m1 : (P : Int) - (X : Int) ≤ (X : Int) - (P : Int) := by omega
                             have m2 : ¬ (X : Int) - (P : Int) < (P : Int) - (X : Int) := by omega
                             have m3 : -((X : Int) - (P : Int)) = (P : Int) - (X : Int) := by omega)
                        go_wp2_with (fail)
                        go_at_call 27
                        with_reducible refine (hov2'.out _).mono ?_
                        rintro e w4 ⟨v2, rfl, hle4, hr4⟩
                        have hr5 := hr4
                        obtain ⟨s3, A3, n3, c3, A4, n4, c4, rfl⟩ := hr4.qform
                        obtain ⟨W5, hW5, hle5, k5⟩ : ∃ W5, w4.alloc (.cells #[.bool s3, .slice A3 n3 c3, .slice A4 n4 c4] 61) = W5 ∧ Le w4 W5 ∧ W5.heap[w4.heap.size]? = some (.cells #[.bool s3, .slice A3 n3 c3, .slice A4 n4 c4] 61) := ⟨_, rfl, le_alloc _ _, alc_at _ _⟩
                        have hle45 := hle4.trans hle5
                        have hBl : Bq < w4.heap.size := Nat.lt_of_lt_of_le hlbi.out.lt hle4.size
                        have hne1 : ¬ Bq = w4.heap.size := by omega
                        have hne2 : ¬ w4.heap.size = Bq := by omega
                        have hrR := hr5.le hle5
                        obtain ⟨hs9, s9, A9, n9, c9, A8, n8, c8, k9, hr9⟩ := hlbi.out.le hle45
                        obtain ⟨a0, a1, a2, -⟩ := cells3 k5
                        obtain ⟨b0, b1, b2, -⟩ := cells3 k9
                        have hord := pf_n_Order (fun _ => True) R t2.2.2 _ _ W5 (Up.any _) hrR hr9 (hsR'.out.up (by decide)) (hs9.up (by decide))
                        obtain ⟨cv, hcv⟩ : ∃ cv, rsgn (R - t2.2.2) = cv := ⟨_, rfl⟩
                        have hclt : cv < 0 ↔ R < t2.2.2 := by rw [← hcv]; exact rsgn_lt
                        have hcb : -1 ≤ cv ∧ cv ≤ 1 := by rw [← hcv]; unfold rsgn; have := Int.sign_trichotomy (R - t2.2.2).num; omega
                        rw [hcv] at hord
                        have hle05 := hli.out.trans hle45
                        have hle4' := Lib.hid hle4
                        have hr4' := Lib.hid hr4
                        have hr5' := Lib.hid hr5
                        have hle5' := Lib.hid hle5
                        have k5' := Lib.hid k5
                        have hle45' := Lib.hid hle45
                        have hrR' := Lib.hid hrR
                        have k9' := Lib.hid k9
                        have hr9' := Lib.hid hr9
                        have hord' := Lib.hid hord
                        have hcv' := Lib.hid hcv
                        have hclt' := Lib.hid hclt
                        have hle05' := Lib.hid hle05
                        have hs9' := Lib.hid hs9
                        clear hs9 hle05 hclt hcv hord hr9 k9 hrR hle45 k5 hle5 hr5 hr4 hle4
                        go_wp2_with (fail)
                        clear hW5
                        go_at_call 28
                        refine hord'.out.mono ?_
                        rintro e w6 ⟨rfl, hle6⟩
                        have k6 := box_later hle6 k5'.out
                        have kB := box_later hle6 k9'.out
                        clear a0 a1 a2 b0 b1 b2
                        obtain ⟨a0, a1, a2, -⟩ := cells3 k6
                        obtain ⟨b0, b1, b2, -⟩ := cells3 kB
                        have g0 := frozen00 kB 0
                        have g1 := frozen00 kB 1
                        have g2 := frozen00 kB 2
                        have hle06 := hle05'.out.trans hle6
                        have hT : Le W0 (((w6.setCell ⟨Bq, 0, none⟩ (.bool s3)).setCell ⟨Bq, 1, none⟩ (.slice A3 n3 c3)).setCell ⟨Bq, 2, none⟩ (.slice A4 n4 c4)) ∧ LeastB (((w6.setCell ⟨Bq, 0, none⟩ (.bool s3)).setCell ⟨Bq, 1, none⟩ (.slice A3 n3 c3)).setCell ⟨Bq, 2, none⟩ (.slice A4 n4 c4)) Bq R :=
                          ⟨le_set3 hle06 hB1, hsR'.out, _, _, _, _, _, _, _, heap_set3 kB, (hrR'.out.le hle6).touch (noInt3 kB) (touch_set3 _ _ _ _ _)⟩
                        have hN : LeastB w6 Bq t2.2.2 := ⟨hs9'.out, _, _, _, _, _, _, _, kB, hr9'.out.le hle6⟩
                        have hle6' := Lib.hid hle6
                        have k6' := Lib.hid k6
                        have kB' := Lib.hid kB
                        have hle06' := Lib.hid hle06
                        have hT' := Lib.hid hT
                        have hN' := Lib.hid hN
                        clear hN hT hle06 kB k6 hle6
                        by_cases hc0 : cv < 0
                        · have hx := hnyes'.out (hclt'.out.1 hc0)
                          have hx' := Lib.hid hx
                          clear hx
                          go_wp2
                          go_roundw
                          case rel => exact ⟨k + 1, by omega, by go_num, (i, k, R), rfl, rfl, Lib.hid (hnxt'.out _ hx'.out.symm), by show i ≤ 1000; omega, by show k ≤ 1000; omega, Lib.hid hT'.out.1, Lib.hid hT'.out.2⟩
                          case measure => simp [intOf]; omega
                        · have hx := hnno'.out (fun h => hc0 (hclt'.out.2 h))
                          have hx' := Lib.hid hx
                          clear hx
                          go_wp2
                          go_roundw
                          case rel => exact ⟨k + 1, by omega, by go_num, t2, rfl, rfl, Lib.hid (hnxt'.out _ hx'.out.symm), hu1, hu2, hle06', hN'⟩
                          case measure => simp [intOf]; omega
                    · obtain rfl : k = n + 1 := by omega
                      go_wp2
                      go_roundw
                      case rel => exact ⟨i + 1, by omega, by go_num, t2, rfl, rfl, Lib.hid (htt.out.trans hend'.out), hu1, hu2, hli, hlbi⟩
                      case measure => simp [intOf]; omega
                · obtain rfl : i = ps.length := by omega
                  obtain ⟨hs9, s9, A9, n9, c9, A8, n8, c8, k9, hr9⟩ := hlb.out
                  obtain ⟨b0, b1, b2, -⟩ := cells3 k9
                  have hout := pf_n_Out_fit t.2.2 _ wr hr9 hs9
                  have hs9' := Lib.hid hs9
                  have k9' := Lib.hid k9
                  have hr9' := Lib.hid hr9
                  have hout' := Lib.hid hout
                  clear hout hr9 k9 hs9
                  go_wp2_with (fail)
                  go_at_call 29
                  refine hout'.out.mono ?_
                  rintro e w4 ⟨v2, rfl, hle4, hf4⟩
                  have hf5 := hf4
                  obtain ⟨x1, x2, x3, x4, x5, x6, x7, x8, rfl⟩ := hf4.fform
                  obtain ⟨W5, hW5, hle5, k5⟩ : ∃ W5, w4.alloc (.cells #[.bool x1, .slice x2 x3 x4, .bool x5, .slice x6 x7 x8] 34) = W5 ∧ Le w4 W5 ∧ W5.heap[w4.heap.size]? = some (.cells #[.bool x1, .slice x2 x3 x4, .bool x5, .slice x6 x7 x8] 34) := ⟨_, rfl, le_alloc _ _, alc_at _ _⟩
                  have hle05 := (hlw.out.trans hle4).trans hle5
                  have kO := box_later hle05 k0'.out
                  have hfW := hf5.le hle5
                  obtain ⟨a0, a1, a2, a3⟩ := cells4 k5
                  obtain ⟨f0, f1, f2, f3⟩ := cells4 kO
                  have g0 := frozen00 kO 0
                  have g1 := frozen00 kO 1
                  have g2 := frozen00 kO 2
                  have g3 := frozen00 kO 3
                  have hOl : w.heap.size < w4.heap.size := Nat.lt_of_lt_of_le (Array.getElem?_eq_some_iff.1 k0'.out).1 (hlw.out.trans hle4).size
                  have hne1 : ¬ w.heap.size = w4.heap.size := by omega
                  have hne2 : ¬ w4.heap.size = w.heap.size := by omega
                  have hz5 := cells4 (heap_set4 (u0 := .bool x1) (u1 := .slice x2 x3 x4) (u2 := .bool x5) (u3 := .slice x6 x7 x8) kO)
                  have hlez5 := Below.drew (le_set4 (u0 := .bool x1) (u1 := .slice x2 x3 x4) (u2 := .bool x5) (u3 := .slice x6 x7 x8) (hle'.out.trans hle05) (Nat.le_refl _))
                  have hfr2 := (FracL.touch hfW (noInt4 kO) (touch_set4 W5 w.heap.size (.bool x1) (.slice x2 x3 x4) (.bool x5) (.slice x6 x7 x8))).le ((Below.refl _ _).drew)
                  have hpost := IdxPost.good hE'.out (by rw [hfin3'.out]; exact ht.out) hlez5 hfr2
                  clear b0 b1 b2
                  have hle4' := Lib.hid hle4
                  have hf4' := Lib.hid hf4
                  have hf5' := Lib.hid hf5
                  have hle5' := Lib.hid hle5
                  have k5' := Lib.hid k5
                  have hle05' := Lib.hid hle05
                  have kO' := Lib.hid kO
                  have hfW' := Lib.hid hfW
                  have hz5' := Lib.hid hz5
                  have hlez5' := Lib.hid hlez5
                  have hfr2' := Lib.hid hfr2
                  have hpost' := Lib.hid hpost
                  clear hpost hfr2 hlez5 hz5 hfW kO hle05 k5 hle5 hf5 hf4 hle4
                  go_wp2_with (fail)
                  clear hW5
                  go_region
                  all_goals
                    go_wp2
                    obtain ⟨e0, e1, e2, e3⟩ := hz5'.out
                    exact bodyPost_ret (v := .tuple #[.int .i64 (t.1 : Int), .int .i64 (t.2.1 : Int), .agg #[.bool x1, .slice x2 x3 x4, .bool x5, .slice x6 x7 x8], .int .i64 0]) (by simp [results, Tryz.results8, go_sem, e0, e1, e2, e3]) rfl hpost'.out
end Go.Proofs.YtbikpadjmmgpcaaGreat
