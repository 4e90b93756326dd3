/- Trains of wheels: the reference. -/
import Derived.Test.YtonnnidnalfilaaTrains2
namespace Go.Proofs.Ytonnnidnalfilaa
open Go.RowKit
set_option linter.unusedVariables false

theorem pf_r2_within (n lo hi : Int) (w : World) : Calls Try.prog 12 #[.int .i64 n, .int .i64 lo, .int .i64 hi] w fun e w' => e = .returned (.bool (within n lo hi)) ∧ w = w' := by
  unfold within
  by_cases h1 : lo ≤ n
  · by_cases h2 : n ≤ hi
    all_goals
      go_enter Try.func12, Try.ntmps12
      go_wp2
      go_ret
      simp [h1, h2]
  · have h1' : decide (lo ≤ n) = false := by simpa using h1
    rw [h1', Bool.false_and]
    go_enter Try.func12, Try.ntmps12
    go_wp2
    go_ret
    exact ⟨rfl, rfl⟩

def pairAt (ws : List Int) (num den : Int) (a b : Nat) : Option (List Int) :=
  if a ≠ b ∧ ws.getD a 0 * den = ws.getD b 0 * num then some [(a : Int), (b : Int)] else none
def quadOk (ws : List Int) (num den : Int) (a b c d : Nat) : Bool :=
  a != b && (a != c && (a != d && (b != c && (b != d && (c != d && ws.getD a 0 * ws.getD c 0 * den == ws.getD b 0 * ws.getD d 0 * num)))))
def quadAt (ws : List Int) (num den : Int) (a b c d : Nat) : Option (List Int) :=
  if quadOk ws num den a b c d then some [(a : Int), (b : Int), (c : Int), (d : Int)] else none
def pairs (ws : List Int) (num den : Int) : Option (List Int) := first ws.length fun a => first ws.length fun b => pairAt ws num den a b
def quads (ws : List Int) (num den : Int) : Option (List Int) :=
  first (ws.length * ws.length * ws.length * ws.length) fun i => quadAt ws num den (i / (ws.length * ws.length * ws.length)) (i / (ws.length * ws.length) % ws.length) (i / ws.length % ws.length) (i % ws.length)
def trainR (ws : List Int) (num den : Int) : Option (List Int) × Int :=
  if 16 < ws.length then (none, 4)
  else if ws.any (fun x => !within x 12 200) || !within num 1 96 || !within den 1 96 then (none, 2)
  else match pairs ws num den with
    | some l => (some l, 0)
    | none => match quads ws num den with
      | some l => (some l, 0)
      | none => (none, 6)

theorem tr_mul (x y z : Int) (hx : 0 ≤ x ∧ x ≤ 200) (hy : 0 ≤ y ∧ y ≤ 200) (hz : 1 ≤ z ∧ z ≤ 96) : 0 ≤ x * y ∧ x * y ≤ 40000 ∧ 0 ≤ x * y * z ∧ x * y * z ≤ 3840000 := by
  have h1 : 0 ≤ x * y := Int.mul_nonneg hx.1 hy.1
  have h2 : x * y ≤ 200 * 200 := Int.mul_le_mul hx.2 hy.2 hy.1 (by omega)
  have h3 : 0 ≤ x * y * z := Int.mul_nonneg h1 (by omega)
  have h4 : x * y * z ≤ (200 * 200) * 96 := Int.mul_le_mul h2 hz.2 (by omega) (by omega)
  omega
set_option maxRecDepth 100000 in
set_option maxHeartbeats 4000000 in
theorem pf_r2_Train (ws : List Int) (num den : Int) (v : Value) (w : World) (hv : Ints w v ws) (R0 : Option (List Int)) (E : Int) (hP : trainR ws num den = (R0, E)) :
    Calls Try.prog 5 #[v, .int .i64 num, .int .i64 den] w fun e w' => ∃ v', e = .returned (.tuple #[v', .int .i64 E]) ∧ Below w.heap.size w w' ∧ OptInts w' v' R0 := by
  have hv0 := Lib.hid hv
  obtain ⟨A, c, rfl, hlc, hcm, _, hr⟩ := hv
  unfold maxLen at hcm
  unfold trainR at hP
  by_cases hlen : 16 < ws.length
  · rw [if_pos hlen] at hP
    obtain ⟨rfl, rfl⟩ := Prod.mk.inj hP
    clear hP hr
    go_enter Try.func5, Try.ntmps5
    go_wp2
    go_ret2
    exact ⟨_, rfl, Below.refl _ _, rfl⟩
  · rw [if_neg hlen] at hP
    have hP' := Lib.hid hP
    clear hP
    go_enter Try.func5, Try.ntmps5
    go_wp2
    go_loop [8] (fun i => ∃ k : Nat, k ≤ ws.length ∧ i = .int .i64 k ∧ Hid (∀ j (h : j < ws.length), j < k → within ws[j] 12 200 = true)) (fun i => ws.length - (intOf i).toNat)
    case atStart => exact ⟨0, Nat.zero_le _, rfl, fun j _ h => absurd h (by omega)⟩
    case round =>
      obtain ⟨k, hk, rfl, hbef⟩ := hrel
      by_cases hlt : k < ws.length
      · obtain ⟨b, off, rfl, hb, hc⟩ := hr (by omega)
        have hck : w.cell? ⟨b, off + k, none⟩ = some (.int .i64 ws[k]) := hc k hlt
        generalize hx : ws[k] = t at hck
        have hx' := Lib.hid hx
        clear hx hc hr
        obtain ⟨B, hB⟩ : ∃ B, within t 12 200 = B := ⟨_, rfl⟩
        have hB' := Lib.hid hB
        clear hB
        cases B with
        | true =>
          go_wp2_with (first | (go_at_call 12; refine (pf_r2_within _ _ _ _).mono ?_; rintro e w' ⟨rfl, rfl⟩; rw [hB'.out]))
          go_round
          case rel => exact ⟨k + 1, by omega, by go_num, fun j h hj => by
            by_cases hjk : j = k
            · subst hjk; rw [hx'.out]; exact hB'.out
            · exact hbef.out j h (by omega)⟩
          case measure => simp [intOf]; omega
        | false =>
          have hP := hP'.out
          rw [if_pos (by
            have : (ws.any fun x => !within x 12 200) = true := List.any_eq_true.2 ⟨ws[k], List.getElem_mem hlt, by rw [hx'.out, hB'.out]; rfl⟩
            rw [this]; rfl)] at hP
          obtain ⟨rfl, rfl⟩ := Prod.mk.inj hP
          clear hP
          go_wp2_with (first | (go_at_call 12; refine (pf_r2_within _ _ _ _).mono ?_; rintro e w' ⟨rfl, rfl⟩; rw [hB'.out]))
          go_ret2
          exact ⟨_, rfl, Below.refl _ _, rfl⟩
      · have hok : (ws.any fun x => !within x 12 200) = false := by
          rw [List.any_eq_false]
          intro x hx
          obtain ⟨j, hj, rfl⟩ := List.mem_iff_getElem.1 hx
          rw [hbef.out j hj (by omega)]; decide
        have hok' := Lib.hid hok
        clear hok hbef
        obtain ⟨N, hN⟩ : ∃ N, within num 1 96 = N := ⟨_, rfl⟩
        obtain ⟨D, hD⟩ : ∃ D, within den 1 96 = D := ⟨_, rfl⟩
        have hP := hP'.out
        rw [hok'.out, hN, hD] at hP
        have hN' := Lib.hid hN
        have hD' := Lib.hid hD
        clear hN hD
        by_cases hbad : (false || !N || !D) = true
        · rw [if_pos hbad] at hP
          obtain ⟨rfl, rfl⟩ := Prod.mk.inj hP
          clear hP hr
          cases N with
          | false =>
            clear hbad
            go_wp2_with (first | (go_at_call 12; refine (pf_r2_within _ _ _ _).mono ?_; rintro e w' ⟨rfl, rfl⟩; first | rw [hN'.out] | rw [hD'.out]))
            go_ret2
            exact ⟨_, rfl, Below.refl _ _, rfl⟩
          | true =>
            obtain rfl : D = false := by cases D; rfl; simp at hbad
            clear hbad
            go_wp2_with (first | (go_at_call 12; refine (pf_r2_within _ _ _ _).mono ?_; rintro e w' ⟨rfl, rfl⟩; first | rw [hN'.out] | rw [hD'.out]))
            go_ret2
            exact ⟨_, rfl, Below.refl _ _, rfl⟩
        · rw [if_neg hbad] at hP
          obtain ⟨rfl, rfl⟩ : N = true ∧ D = true := by cases N <;> cases D <;> simp_all
          clear hbad hP'
          have hP' := Lib.hid hP
          clear hP
          go_wp2_with (first | (go_at_call 12; refine (pf_r2_within _ _ _ _).mono ?_; rintro e w' ⟨rfl, rfl⟩; first | rw [hN'.out] | rw [hD'.out]))
          have hwv : ∀ x ∈ ws, 0 ≤ x ∧ x ≤ 200 := by
            intro x hx
            have h1 := hok'.out
            rw [List.any_eq_false] at h1
            have h2 := within_iff.1 (by simpa using h1 x hx)
            omega
          have hwv' := Lib.hid hwv
          clear hwv
          obtain ⟨hnum0, hnum1⟩ := within_iff.1 hN'.out
          obtain ⟨hden0, hden1⟩ := within_iff.1 hD'.out
          have mulb : ∀ x ∈ ws, (0 ≤ x * den ∧ x * den ≤ 20000) ∧ (0 ≤ x * num ∧ x * num ≤ 20000) := by
            intro x hx
            have h1 := hwv'.out x hx
            refine ⟨⟨Int.mul_nonneg h1.1 (by omega), Int.le_trans (Int.mul_le_mul h1.2 hden1 (by omega) (by omega)) (by omega)⟩, ⟨Int.mul_nonneg h1.1 (by omega), Int.le_trans (Int.mul_le_mul h1.2 hnum1 (by omega) (by omega)) (by omega)⟩⟩
          have mulb' := Lib.hid mulb
          clear mulb
          have hr' := Lib.hid hr
          clear hr
          go_loopw [10] (fun i wr => ∃ a : Nat, a ≤ ws.length ∧ i = .int .i64 a ∧ Below w.heap.size w wr ∧ Hid (∀ j, j < a → (first ws.length fun b => pairAt ws num den j b) = none)) (fun i _ => ws.length - (intOf i).toNat)
          case atStart => exact ⟨0, by omega, rfl, Below.refl _ _, fun j h => absurd h (by omega)⟩
          case round =>
            obtain ⟨a, ha, rfl, hbw, hba⟩ := hrel
            by_cases hlta : a < ws.length
            · go_wp2
              obtain ⟨wo, rfl⟩ : ∃ wo : World, wo = wr := ⟨_, rfl⟩
              go_loopw [11] (fun i wr => ∃ b : Nat, b ≤ ws.length ∧ i = .int .i64 b ∧ Below w.heap.size w wr ∧ Hid (∀ j, j < b → pairAt ws num den a j = none)) (fun i _ => ws.length - (intOf i).toNat)
              case atStart => exact ⟨0, by omega, rfl, hbw, fun j h => absurd h (by omega)⟩
              case round =>
                obtain ⟨b, hb, rfl, hbw2, hbb⟩ := hrel
                by_cases hltb : b < ws.length
                · have hLe := mulb'.out _ (List.getElem_mem hlta)
                  have hRe := mulb'.out _ (List.getElem_mem hltb)
                  obtain ⟨vb, voff, rfl, hvb, hvc⟩ := hr'.out (by omega)
                  have hca : wr.cell? ⟨vb, voff + a, none⟩ = some (.int .i64 ws[a]) := (hbw2.cell (p := ⟨vb, voff + a, none⟩) hvb).trans (hvc a hlta)
                  have hcb : wr.cell? ⟨vb, voff + b, none⟩ = some (.int .i64 ws[b]) := (hbw2.cell (p := ⟨vb, voff + b, none⟩) hvb).trans (hvc b hltb)
                  have hga : ws.getD a 0 = ws[a] := by simp [hlta]
                  have hgb : ws.getD b 0 = ws[b] := by simp [hltb]
                  have hga' := Lib.hid hga
                  have hgb' := Lib.hid hgb
                  generalize ws[a] = x at *
                  generalize ws[b] = y at *
                  obtain ⟨⟨l1, l2⟩, -⟩ := hLe
                  obtain ⟨-, ⟨r1, r2⟩⟩ := hRe
                  have i1 : (0 : Int) ≤ (a : Int) := by omega
                  have i2 : (a : Int) < (ws.length : Int) := by omega
                  have i3 : (0 : Int) ≤ (b : Int) := by omega
                  have i4 : (b : Int) < (ws.length : Int) := by omega
                  clear hvc hga hgb
                  have hw1 : IntKind.i64.wrap (x * den) = x * den := IntWalk.i64_in _ (by omega)
                  have hw2 : IntKind.i64.wrap (y * num) = y * num := IntWalk.i64_in _ (by omega)
                  by_cases hab : a = b
                  · obtain rfl : b = a := hab.symm
                    have hn : pairAt ws num den b b = none := by simp [pairAt]
                    have hn' := Lib.hid hn
                    clear hn
                    have hd : ((b : Int) != (b : Int)) = false := by simp
                    go_wp2
                    go_quiet (fail)
                    go_wp2
                    go_roundw
                    case rel => exact ⟨b + 1, by omega, by go_num, (below_drewN' hbw2 _), fun j hj => by
                      by_cases hjb : j = b
                      · subst hjb; exact hn'.out
                      · exact hbb.out j (by omega)⟩
                    case measure => simp [intOf]; omega
                  · have hd : ((a : Int) != (b : Int)) = true := by simp; omega
                    by_cases heq : x * den = y * num
                    · have hn : pairAt ws num den a b = some [(a : Int), (b : Int)] := by unfold pairAt; rw [if_pos ⟨hab, by rw [hga'.out, hgb'.out]; exact heq⟩]
                      have hn' := Lib.hid hn
                      have he1 : (x * den == y * num) = true := by simpa using heq
                      clear hn heq hab
                      go_wp2
                      go_quiet (fail)
                      go_wp2
                      have hp1 : pairs ws num den = some [(a : Int), (b : Int)] := first_some _ _ a hlta (fun j hj => hba.out j hj) _ (first_some _ _ b hltb (fun j hj => hbb.out j hj) _ hn'.out)
                      have hP := hP'.out
                      rw [hp1] at hP
                      obtain ⟨rfl, rfl⟩ := Prod.mk.inj hP
                      go_ret2
                      exact ⟨_, rfl, below_drewN' (hbw2.alloc hbw2.size _) _, lit_ints wr [(a : Int), (b : Int)] _ (by simp [maxLen])⟩
                    · have hn : pairAt ws num den a b = none := by unfold pairAt; rw [if_neg (by rw [hga'.out, hgb'.out]; exact fun h => heq h.2)]
                      have hn' := Lib.hid hn
                      have he1 : (x * den == y * num) = false := by simpa using heq
                      clear hn heq hab
                      go_wp2
                      go_quiet (fail)
                      go_wp2
                      go_roundw
                      case rel => exact ⟨b + 1, by omega, by go_num, (below_drewN' hbw2 _), fun j hj => by
                        by_cases hjb : j = b
                        · subst hjb; exact hn'.out
                        · exact hbb.out j (by omega)⟩
                      case measure => simp [intOf]; omega
                · go_wp2
                  go_roundw
                  case rel => exact ⟨a + 1, by omega, by go_num, hbw2, fun j hj => by
                    by_cases hja : j = a
                    · subst hja; exact first_none _ _ fun i hi => hbb.out i (by omega)
                    · exact hba.out j (by omega)⟩
                  case measure => simp [intOf]; omega
            · go_wp2
              have hpn : pairs ws num den = none := first_none _ _ fun j hj => hba.out j (by omega)
              have hP := hP'.out
              rw [hpn] at hP
              have hP2 := Lib.hid hP
              clear hP hpn hP' hba mulb'
              obtain ⟨N2, hN2⟩ : ∃ N2, N2 = ws.length * ws.length := ⟨_, rfl⟩
              obtain ⟨N3, hN3⟩ : ∃ N3, N3 = ws.length * ws.length * ws.length := ⟨_, rfl⟩
              obtain ⟨N4, hN4⟩ : ∃ N4, N4 = ws.length * ws.length * ws.length * ws.length := ⟨_, rfl⟩
              have b2 : N2 ≤ 16 * 16 := by rw [hN2]; exact Nat.mul_le_mul (by omega) (by omega)
              have b3 : N3 ≤ 16 * 16 * 16 := by rw [hN3, ← hN2]; exact Nat.mul_le_mul b2 (by omega)
              have b4 : N4 ≤ 16 * 16 * 16 * 16 := by rw [hN4, ← hN3]; exact Nat.mul_le_mul b3 (by omega)
              have E2 : (ws.length : Int) * (ws.length : Int) = (N2 : Int) := by rw [hN2]; simp
              have E3 : (N2 : Int) * (ws.length : Int) = (N3 : Int) := by rw [hN2, hN3]; simp
              have E4 : (N3 : Int) * (ws.length : Int) = (N4 : Int) := by rw [hN3, hN4]; simp
              have hN2' := Lib.hid hN2
              have hN3' := Lib.hid hN3
              have hN4' := Lib.hid hN4
              clear hN2 hN3 hN4
              go_loopw [12] (fun i wr => ∃ k : Nat, k ≤ N4 ∧ i = .int .i64 k ∧ Below w.heap.size w wr ∧ Hid (∀ j, j < k → quadAt ws num den (j / N3) (j / N2 % ws.length) (j / ws.length % ws.length) (j % ws.length) = none)) (fun i _ => N4 - (intOf i).toNat)
              case atStart => exact ⟨0, by omega, rfl, hbw, fun j h => absurd h (by omega)⟩
              case round =>
                obtain ⟨i, hi, rfl, hbw3, hbi⟩ := hrel
                by_cases hlti : i < N4
                · have hpos : 0 < ws.length := by
                    rcases Nat.eq_zero_or_pos ws.length with h0 | h0
                    · have := hN4'.out; rw [h0] at this; omega
                    · exact h0
                  have p2 : 0 < N2 := by rw [hN2'.out]; exact Nat.mul_pos hpos hpos
                  have p3 : 0 < N3 := by rw [hN3'.out]; exact Nat.mul_pos (Nat.mul_pos hpos hpos) hpos
                  obtain ⟨a1, ha1⟩ : ∃ a, i / N3 = a := ⟨_, rfl⟩
                  obtain ⟨q1, hq1⟩ : ∃ a, i / N2 = a := ⟨_, rfl⟩
                  obtain ⟨b1, hb1⟩ : ∃ a, q1 % ws.length = a := ⟨_, rfl⟩
                  obtain ⟨q2, hq2⟩ : ∃ a, i / ws.length = a := ⟨_, rfl⟩
                  obtain ⟨c1, hc1⟩ : ∃ a, q2 % ws.length = a := ⟨_, rfl⟩
                  obtain ⟨d1, hd1⟩ : ∃ a, i % ws.length = a := ⟨_, rfl⟩
                  have la : a1 < ws.length := by rw [← ha1, Nat.div_lt_iff_lt_mul p3, Nat.mul_comm, hN3'.out, ← hN4'.out]; exact hlti
                  have lb : b1 < ws.length := by rw [← hb1]; exact Nat.mod_lt _ hpos
                  have lc : c1 < ws.length := by rw [← hc1]; exact Nat.mod_lt _ hpos
                  have ld : d1 < ws.length := by rw [← hd1]; exact Nat.mod_lt _ hpos
                  have bq1 : q1 ≤ 65536 := by rw [← hq1]; exact Nat.le_trans (Nat.div_le_self _ _) (by omega)
                  have bq2 : q2 ≤ 65536 := by rw [← hq2]; exact Nat.le_trans (Nat.div_le_self _ _) (by omega)
                  have f1 : (i : Int) / (N3 : Int) = (a1 : Int) := by rw [← ha1]; simp
                  have f2 : (i : Int) / (N2 : Int) = (q1 : Int) := by rw [← hq1]; simp
                  have f3 : (q1 : Int) % (ws.length : Int) = (b1 : Int) := by rw [← hb1]; simp
                  have f4 : (i : Int) / (ws.length : Int) = (q2 : Int) := by rw [← hq2]; simp
                  have f5 : (q2 : Int) % (ws.length : Int) = (c1 : Int) := by rw [← hc1]; simp
                  have f6 : (i : Int) % (ws.length : Int) = (d1 : Int) := by rw [← hd1]; simp
                  have hq : quadAt ws num den (i / N3) (i / N2 % ws.length) (i / ws.length % ws.length) (i % ws.length) = quadAt ws num den a1 b1 c1 d1 := by rw [ha1, hq1, hb1, hq2, hc1, hd1]
                  have hq' := Lib.hid hq
                  clear hq ha1 hq1 hb1 hq2 hc1 hd1
                  go_wp2
                  go_quiet (fail)
                  simp only [f3, f5, f6]
                  clear f1 f2 f3 f4 f5 f6 E2 E3 E4 bq1 bq2
                  have hbw4 := below_drewN' hbw3 nq
                  generalize wr.drewN nq = wr2 at hbw4 ⊢
                  clear hbw3
                  by_cases e0 : a1 = b1
                  · have hn : quadAt ws num den a1 b1 c1 d1 = none := by simp [quadAt, quadOk, e0]
                    have hn' := Lib.hid hn
                    have hd0 : ((a1 : Int) != (b1 : Int)) = false := by simp [e0]
                    clear hn e0
                    go_wp2
                    go_quiet (fail)
                    go_wp2
                    go_roundw
                    case rel => exact ⟨i + 1, by omega, by go_num, below_drewN' hbw4 _, fun j hj => by
                      by_cases hji : j = i
                      · rw [hji, hq'.out]; exact hn'.out
                      · exact hbi.out j (by omega)⟩
                    case measure => simp [intOf]; omega
                  have g0 := Lib.hid e0
                  have hd0 : ((a1 : Int) != (b1 : Int)) = true := by simp; omega
                  clear e0
                  by_cases e1 : a1 = c1
                  · have hn : quadAt ws num den a1 b1 c1 d1 = none := by simp [quadAt, quadOk, e1]
                    have hn' := Lib.hid hn
                    have hd1 : ((a1 : Int) != (c1 : Int)) = false := by simp [e1]
                    clear hn e1
                    go_wp2
                    go_quiet (fail)
                    go_wp2
                    go_roundw
                    case rel => exact ⟨i + 1, by omega, by go_num, below_drewN' hbw4 _, fun j hj => by
                      by_cases hji : j = i
                      · rw [hji, hq'.out]; exact hn'.out
                      · exact hbi.out j (by omega)⟩
                    case measure => simp [intOf]; omega
                  have g1 := Lib.hid e1
                  have hd1 : ((a1 : Int) != (c1 : Int)) = true := by simp; omega
                  clear e1
                  by_cases e2 : a1 = d1
                  · have hn : quadAt ws num den a1 b1 c1 d1 = none := by simp [quadAt, quadOk, e2]
                    have hn' := Lib.hid hn
                    have hd2 : ((a1 : Int) != (d1 : Int)) = false := by simp [e2]
                    clear hn e2
                    go_wp2
                    go_quiet (fail)
                    go_wp2
                    go_roundw
                    case rel => exact ⟨i + 1, by omega, by go_num, below_drewN' hbw4 _, fun j hj => by
                      by_cases hji : j = i
                      · rw [hji, hq'.out]; exact hn'.out
                      · exact hbi.out j (by omega)⟩
                    case measure => simp [intOf]; omega
                  have g2 := Lib.hid e2
                  have hd2 : ((a1 : Int) != (d1 : Int)) = true := by simp; omega
                  clear e2
                  by_cases e3 : b1 = c1
                  · have hn : quadAt ws num den a1 b1 c1 d1 = none := by simp [quadAt, quadOk, e3]
                    have hn' := Lib.hid hn
                    have hd3 : ((b1 : Int) != (c1 : Int)) = false := by simp [e3]
                    clear hn e3
                    go_wp2
                    go_quiet (fail)
                    go_wp2
                    go_roundw
                    case rel => exact ⟨i + 1, by omega, by go_num, below_drewN' hbw4 _, fun j hj => by
                      by_cases hji : j = i
                      · rw [hji, hq'.out]; exact hn'.out
                      · exact hbi.out j (by omega)⟩
                    case measure => simp [intOf]; omega
                  have g3 := Lib.hid e3
                  have hd3 : ((b1 : Int) != (c1 : Int)) = true := by simp; omega
                  clear e3
                  by_cases e4 : b1 = d1
                  · have hn : quadAt ws num den a1 b1 c1 d1 = none := by simp [quadAt, quadOk, e4]
                    have hn' := Lib.hid hn
                    have hd4 : ((b1 : Int) != (d1 : Int)) = false := by simp [e4]
                    clear hn e4
                    go_wp2
                    go_quiet (fail)
                    go_wp2
                    go_roundw
                    case rel => exact ⟨i + 1, by omega, by go_num, below_drewN' hbw4 _, fun j hj => by
                      by_cases hji : j = i
                      · rw [hji, hq'.out]; exact hn'.out
                      · exact hbi.out j (by omega)⟩
                    case measure => simp [intOf]; omega
                  have g4 := Lib.hid e4
                  have hd4 : ((b1 : Int) != (d1 : Int)) = true := by simp; omega
                  clear e4
                  by_cases e5 : c1 = d1
                  · have hn : quadAt ws num den a1 b1 c1 d1 = none := by simp [quadAt, quadOk, e5]
                    have hn' := Lib.hid hn
                    have hd5 : ((c1 : Int) != (d1 : Int)) = false := by simp [e5]
                    clear hn e5
                    go_wp2
                    go_quiet (fail)
                    go_wp2
                    go_roundw
                    case rel => exact ⟨i + 1, by omega, by go_num, below_drewN' hbw4 _, fun j hj => by
                      by_cases hji : j = i
                      · rw [hji, hq'.out]; exact hn'.out
                      · exact hbi.out j (by omega)⟩
                    case measure => simp [intOf]; omega
                  have g5 := Lib.hid e5
                  have hd5 : ((c1 : Int) != (d1 : Int)) = true := by simp; omega
                  clear e5
                  obtain ⟨vb, voff, rfl, hvb, hvc⟩ := hr'.out (by omega)
                  have hvcell : ∀ k, (h : k < ws.length) → wr2.cell? ⟨vb, voff + k, none⟩ = some (.int .i64 ws[k]) := fun k h => (hbw4.cell (p := ⟨vb, voff + k, none⟩) hvb).trans (hvc k h)
                  have hca := hvcell a1 la
                  have hva := hwv'.out _ (List.getElem_mem la)
                  have hga : ws.getD a1 0 = ws[a1] := by simp [la]
                  have hcb := hvcell b1 lb
                  have hvb' := hwv'.out _ (List.getElem_mem lb)
                  have hgb : ws.getD b1 0 = ws[b1] := by simp [lb]
                  have hcc := hvcell c1 lc
                  have hvc' := hwv'.out _ (List.getElem_mem lc)
                  have hgc : ws.getD c1 0 = ws[c1] := by simp [lc]
                  have hcd := hvcell d1 ld
                  have hvd := hwv'.out _ (List.getElem_mem ld)
                  have hgd : ws.getD d1 0 = ws[d1] := by simp [ld]
                  generalize ws[a1] = xa at hca hva hga
                  have hga' := Lib.hid hga
                  clear hga
                  have ia1 : (0 : Int) ≤ (a1 : Int) := by omega
                  have ia2 : (a1 : Int) < (ws.length : Int) := by omega
                  generalize ws[b1] = xb at hcb hvb' hgb
                  have hgb' := Lib.hid hgb
                  clear hgb
                  have ib1 : (0 : Int) ≤ (b1 : Int) := by omega
                  have ib2 : (b1 : Int) < (ws.length : Int) := by omega
                  generalize ws[c1] = xc at hcc hvc' hgc
                  have hgc' := Lib.hid hgc
                  clear hgc
                  have ic1 : (0 : Int) ≤ (c1 : Int) := by omega
                  have ic2 : (c1 : Int) < (ws.length : Int) := by omega
                  generalize ws[d1] = xd at hcd hvd hgd
                  have hgd' := Lib.hid hgd
                  clear hgd
                  have id1 : (0 : Int) ≤ (d1 : Int) := by omega
                  have id2 : (d1 : Int) < (ws.length : Int) := by omega
                  clear hvcell hvc
                  obtain ⟨m1, m2, m3, m4⟩ := tr_mul xa xc den hva hvc' ⟨hden0, hden1⟩
                  obtain ⟨n1, n2, n3, n4⟩ := tr_mul xb xd num hvb' hvd ⟨hnum0, hnum1⟩
                  have hw1 : IntKind.i64.wrap (xa * xc) = xa * xc := IntWalk.i64_in _ (by omega)
                  have hw2 : IntKind.i64.wrap (xa * xc * den) = xa * xc * den := IntWalk.i64_in _ (by omega)
                  have hw3 : IntKind.i64.wrap (xb * xd) = xb * xd := IntWalk.i64_in _ (by omega)
                  have hw4 : IntKind.i64.wrap (xb * xd * num) = xb * xd * num := IntWalk.i64_in _ (by omega)
                  by_cases heq : xa * xc * den = xb * xd * num
                  · have hn : quadAt ws num den a1 b1 c1 d1 = some [(a1 : Int), (b1 : Int), (c1 : Int), (d1 : Int)] := by
                      unfold quadAt quadOk
                      rw [hga'.out, hgb'.out, hgc'.out, hgd'.out]
                      simp [g0.out, g1.out, g2.out, g3.out, g4.out, g5.out, heq]
                    have hn' := Lib.hid hn
                    have he1 : (xa * xc * den == xb * xd * num) = true := by simpa using heq
                    clear hn heq
                    go_wp2
                    go_quiet (fail)
                    go_wp2
                    have hp1 : quads ws num den = some [(a1 : Int), (b1 : Int), (c1 : Int), (d1 : Int)] := by
                      unfold quads
                      rw [← hN4'.out, ← hN3'.out, ← hN2'.out]
                      exact first_some _ _ i hlti (fun j hj => hbi.out j hj) _ (hq'.out.trans hn'.out)
                    have hP := hP2.out
                    rw [hp1] at hP
                    obtain ⟨rfl, rfl⟩ := Prod.mk.inj hP
                    go_ret2
                    exact ⟨_, rfl, below_drewN' (hbw4.alloc hbw4.size _) _, lit_ints wr2 [(a1 : Int), (b1 : Int), (c1 : Int), (d1 : Int)] _ (by simp [maxLen])⟩
                  · have hn : quadAt ws num den a1 b1 c1 d1 = none := by
                      unfold quadAt quadOk
                      rw [hga'.out, hgb'.out, hgc'.out, hgd'.out]
                      simp [heq]
                    have hn' := Lib.hid hn
                    have he1 : (xa * xc * den == xb * xd * num) = false := by simpa using heq
                    clear hn heq
                    go_wp2
                    go_quiet (fail)
                    go_wp2
                    go_roundw
                    case rel => exact ⟨i + 1, by omega, by go_num, below_drewN' hbw4 _, fun j hj => by
                      by_cases hji : j = i
                      · rw [hji, hq'.out]; exact hn'.out
                      · exact hbi.out j (by omega)⟩
                    case measure => simp [intOf]; omega
                · go_wp2
                  go_ret2
                  have hqn : quads ws num den = none := by
                    unfold quads
                    rw [← hN4'.out, ← hN3'.out, ← hN2'.out]
                    exact first_none _ _ fun j hj => hbi.out j (by omega)
                  have hP := hP2.out
                  rw [hqn] at hP
                  obtain ⟨rfl, rfl⟩ := Prod.mk.inj hP
                  exact ⟨_, rfl, hbw3, rfl⟩
end Go.Proofs.Ytonnnidnalfilaa
