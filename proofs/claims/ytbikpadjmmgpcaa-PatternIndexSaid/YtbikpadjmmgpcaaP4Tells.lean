/- pattern: repeats, motif, gcd, closes. The reference of layer 4: motif, closing. pattern: Closes, Motif; the reference's: Closes, Motif. -/
import Derived.Test.YtbikpadjmmgpcaaP4Lift
import Derived.Test.YtbikpadjmmgpcaaQTail
namespace Go.Proofs.Ytbikpadjmmgpcaa
open Go.RowKit
set_option linter.unusedVariables false
set_option linter.unusedSimpArgs false
theorem tmod_zero (x n : Int) (hn : 0 < n) : (x.tmod n != 0) = !decide (x % n = 0) := by
  obtain ⟨h1, h2, h3, h4⟩ := tmod_facts x n hn
  by_cases h : x.tmod n = 0
  · have := h4 (by omega)
    rw [h] at this
    simp [h, ← this]
  · have : x % n ≠ 0 := by
      rcases Int.lt_or_le (x.tmod n) 0 with hl | hl
      · have := h3 hl; omega
      · have := h4 hl; omega
    simp [h, this]
set_option maxRecDepth 100000 in
set_option maxHeartbeats 2000000 in
theorem pf_repeats (b : Nat) (p : Prog) (m : Nat) (w : World) (hb : IsBench w b p) (hp : BenchFacts p) (h1 : 1 ≤ m) (h2 : m ≤ p.shifts.length) :
    Calls Try.prog 59 #[.pointer (some ⟨b, 0, none⟩), .int .i64 m] w fun e w' => e = .returned (.bool (repsB p m)) ∧ ∃ n, w' = w.drewN n := by
  obtain ⟨v5, vl, h5, -, -, -, -, c5, -, -, c8, c9⟩ := hb.cells
  replace c9 : w.cell? ⟨b, 9, none⟩ = some (.int .i64 (per p)) := c9
  have h5' := Lib.hid h5
  obtain ⟨A, c, rfl, hlc, hcm, _, _⟩ := id h5
  unfold maxLen at hcm
  have hs1 := hp.sh1
  have hpp := per_pos hp
  have hr1 := hp.ros1
  have hN0 := hpp.1
  have hN1 : per p ≤ 96 := by omega
  clear h5 hpp
  obtain ⟨R, hR⟩ : ∃ R, repsB p m = R := ⟨_, rfl⟩
  rw [hR]
  have hR' := Lib.hid hR
  clear hR
  go_enter Try.func59, Try.ntmps59
  go_wp2
  go_loopw [5] (fun i wr => ∃ k : Nat, m ≤ k ∧ k ≤ p.shifts.length ∧ i = .int .i64 k ∧ Hid (∃ n, wr = w.drewN n) ∧ Hid (∀ j, m ≤ j → j < k → (p.shifts.getD j 0 - p.shifts.getD (j - m) 0) % (per p : Int) = 0)) (fun i _ => p.shifts.length - (intOf i).toNat)
  case atStart => exact ⟨m, Nat.le_refl _, h2, rfl, Lib.hid ⟨0, rfl⟩, Lib.hid fun j _ h => absurd h (by omega)⟩
  case round =>
    obtain ⟨k, hmk, hk, rfl, hdr, hp2⟩ := hrel
    have hd0 : (k : Int) - (m : Int) = ((k - m : Nat) : Int) := (Int.ofNat_sub hmk).symm
    have hd : IntKind.i64.wrap ((k : Int) - (m : Int)) = ((k - m : Nat) : Int) := by rw [hd0]; exact IntWalk.i64_in _ (by omega)
    clear hd0
    obtain ⟨nd, hnd⟩ := hdr.out
    subst hnd
    by_cases hlt : k < p.shifts.length
    · obtain ⟨sb, so, hA, hbz, hck⟩ := h5'.out.look hlt
      have hlt2 : k - m < p.shifts.length := by omega
      obtain ⟨sb2, so2, hA2, hbz2, hck2⟩ := h5'.out.look hlt2
      subst hA
      injection hA2 with hA2
      injection hA2 with e1 e2
      subst e1 e2
      have hx := hp.sh k hlt
      have hy := hp.sh (k - m) hlt2
      have hgx : p.shifts.getD k 0 = p.shifts[k] := by simp [hlt]
      have hgy : p.shifts.getD (k - m) 0 = p.shifts[k - m] := by simp [hlt2]
      generalize p.shifts[k] = x at hck hx hgx
      generalize p.shifts[k - m] = y at hck2 hy hgy
      have i1 : (0 : Int) ≤ (k : Int) := by omega
      have i2 : (k : Int) < (p.shifts.length : Int) := by omega
      have i3 : (0 : Int) ≤ ((k - m : Nat) : Int) := by omega
      have i4 : ((k - m : Nat) : Int) < (p.shifts.length : Int) := by omega
      have j1 : IntKind.i64.wrap (x - y) = x - y := IntWalk.i64_in _ (by omega)
      have hz := tmod_zero (x - y) (per p) (by omega)
      have hgx' := Lib.hid hgx
      have hgy' := Lib.hid hgy
      generalize hD : k - m = d at hd i3 i4 hck2 hgy'
      have hD' := Lib.hid hD
      clear hD
      clear hgx hgy
      by_cases ht : (x - y) % (per p : Int) = 0
      · rw [decide_eq_true ht] at hz
        have hz' : ((x - y).tmod (per p : Int) != 0) = false := hz
        have ht' := Lib.hid ht
        clear ht
        clear hz
        go_wp2
        go_quiet (fail)
        go_wp2
        go_roundw
        case rel => exact ⟨k + 1, by omega, by omega, by go_num, Lib.hid (by first | exact ⟨_, rfl⟩ | exact ⟨_, World.drewN_drewN _ _ _⟩), Lib.hid fun j h1 h2 => by
          by_cases hjk : j = k
          · subst hjk; rw [hgx'.out, hD'.out, hgy'.out]; exact ht'.out
          · exact hp2.out j h1 (by omega)⟩
        case measure => simp [intOf]; omega
      · rw [decide_eq_false ht] at hz
        have hz' : ((x - y).tmod (per p : Int) != 0) = true := hz
        have hRf : R = false := by
          rw [← hR'.out]
          unfold repsB
          refine List.all_eq_false.2 ⟨k, List.mem_range.2 hlt, ?_⟩
          rw [hgx'.out, hD'.out, hgy'.out]
          simp [ht]; omega
        subst hRf
        clear hz ht
        go_wp2
        go_quiet (fail)
        go_wp2
        go_ret
        exact ⟨rfl, by first | exact ⟨_, rfl⟩ | exact ⟨_, World.drewN_drewN _ _ _⟩⟩
    · obtain rfl : k = p.shifts.length := by omega
      have hRt : R = true := by
        rw [← hR'.out]
        unfold repsB
        refine List.all_eq_true.2 fun i hi => ?_
        have hi' := List.mem_range.1 hi
        by_cases hm : i < m
        · simp [hm]
        · have := hp2.out i (by omega) hi'
          simp only [Bool.or_eq_true, decide_eq_true_eq]
          exact .inr this
      subst hRt
      go_wp2
      go_ret
      exact ⟨rfl, _, rfl⟩
set_option maxRecDepth 100000 in
set_option maxHeartbeats 2000000 in
theorem pf_motif (b : Nat) (p : Prog) (w : World) (hb : IsBench w b p) (hp : BenchFacts p) :
    Calls Try.prog 37 #[.pointer (some ⟨b, 0, none⟩)] w fun e w' => e = .returned (.tuple #[.int .i64 (motifN p), .int .i64 (turnI p)]) ∧ ∃ n, w' = w.drewN n := by
  have hb' := Lib.hid hb
  obtain ⟨v5, vl, -, -, -, -, -, -, -, -, c8, c9⟩ := hb.cells
  replace c9 : w.cell? ⟨b, 9, none⟩ = some (.int .i64 (per p)) := c9
  have hs0 := hp.sh0
  have hs1 := hp.sh1
  have hpp := per_pos hp
  have hr1 := hp.ros1
  have hN0 := hpp.1
  have hN1 : per p ≤ 96 := by omega
  have hmt := motif_le hp
  have hrep := Lib.hid (motif_reps hp)
  clear hpp hb
  go_enter Try.func37, Try.ntmps37
  go_wp2
  go_loopw [2] (fun i wr => ∃ k : Nat, 1 ≤ k ∧ k ≤ motifN p ∧ i = .int .i64 k ∧ Hid (IsBench wr b p ∧ ∃ n, wr = w.drewN n) ∧ Hid (∀ j, 1 ≤ j → j < k → ¬ (p.shifts.length % j = 0 ∧ repsB p j = true))) (fun i _ => motifN p - (intOf i).toNat)
  case atStart => exact ⟨1, Nat.le_refl _, hmt.1, rfl, Lib.hid ⟨hb'.out, 0, rfl⟩, Lib.hid fun j _ h => absurd h (by omega)⟩
  case round =>
    obtain ⟨k, hk1, hk, rfl, hdr, hno⟩ := hrel
    have hbn := Lib.hid hdr.out.1
    clear c8 c9
    obtain ⟨_, _, -, -, -, -, -, -, -, -, c8, c9⟩ := hbn.out.cells
    replace c9 : wr.cell? ⟨b, 9, none⟩ = some (.int .i64 (per p)) := c9
    obtain ⟨R, hR⟩ : ∃ R, repsB p k = R := ⟨_, rfl⟩
    have hcall : ∀ W : World, IsBench W b p → Calls Try.prog 59 #[.pointer (some ⟨b, 0, none⟩), .int .i64 k] W fun e w' => e = .returned (.bool R) ∧ ∃ n, w' = W.drewN n := fun W h => by rw [← hR]; exact pf_repeats b p k W h hp hk1 (by omega)
    by_cases hd : p.shifts.length % k = 0
    · have hz : (((p.shifts.length : Nat) : Int) % (k : Int) != 0) = false := by rw [show ((p.shifts.length : Nat) : Int) % (k : Int) = ((p.shifts.length % k : Nat) : Int) by simp, hd]; rfl
      have hcall' := Lib.hid hcall
      have hR' := Lib.hid hR
      have hd' := Lib.hid hd
      clear hd hR hcall
      cases R with
      | true =>
        have hkm := motif_found hp hk1 hd'.out hR'.out hno.out
        have hturn : turnI p = phaseI p k % (per p : Int) := by unfold turnI; rw [← hkm]
        have hph := phaseI_bound hp k
        obtain ⟨y, hy⟩ : ∃ y, phaseI p k = y := ⟨_, rfl⟩
        rw [hy] at hph hturn
        have hcall2 : ∀ W : World, IsBench W b p → Calls Try.prog 35 #[.pointer (some ⟨b, 0, none⟩), .int .i64 k] W fun e w' => e = .returned (.int .i64 y) ∧ ∃ n, w' = W.drewN n := fun W h => by rw [← hy]; exact pf_phase b p k W h hp (by omega) (by omega)
        have hq : 0 ≤ y := hph.1
        have hcall2' := Lib.hid hcall2
        have hkm' := Lib.hid hkm
        have hturn' := Lib.hid hturn
        have hy' := Lib.hid hy
        have hph' := Lib.hid hph
        clear hph hy hturn hkm hcall2
        have j1 : y.tmod (per p : Int) = y % (per p : Int) := Int.tmod_eq_emod_of_nonneg hq
        have k1 : ((per p : Int) == 0) = false := by simp; omega
        go_wp2_with (first | (go_at_call 59; ((with_reducible refine (hcall'.out _ hbn.out).mono ?_); rintro e w' ⟨rfl, n2, hw⟩; have hb2 := Lib.hid (show IsBench w' b p from hw ▸ hbn.out.drewN n2); have hw' := Lib.hid hw; clear hw; obtain ⟨_, _, -, -, -, -, -, -, -, -, c8, c9⟩ := hb2.out.cells; replace c9 : w'.cell? ⟨b, 9, none⟩ = some (.int .i64 (per p)) := c9)))
        go_quiet (first | (go_at_call 35; exact Calls.quiet_of (hcall2'.out _ (hb2.out.drewN _))))
        go_wp2
        go_ret2
        exact ⟨by rw [hturn'.out, ← hkm'.out]; exact rfl, by obtain ⟨n1, h1⟩ := hdr.out.2; exact ⟨_, by rw [hw'.out, h1, World.drewN_drewN, World.drewN_drewN]⟩⟩
      | false =>
        have hne : k ≠ motifN p := fun e => by have := hrep.out.2; rw [← e, hR'.out] at this; cases this
        go_wp2_with (first | (go_at_call 59; ((with_reducible refine (hcall'.out _ hbn.out).mono ?_); rintro e w' ⟨rfl, n2, hw⟩; have hb2 := Lib.hid (show IsBench w' b p from hw ▸ hbn.out.drewN n2); have hw' := Lib.hid hw; clear hw)))
        go_roundw
        case rel => exact ⟨k + 1, by omega, by omega, by go_num, Lib.hid ⟨hb2.out, by obtain ⟨n1, h1⟩ := hdr.out.2; exact ⟨n1 + n2, by rw [hw'.out, h1, World.drewN_drewN]⟩⟩, Lib.hid fun j h1 h2 h3 => by
          by_cases hjk : j = k
          · subst hjk; have := h3.2; rw [hR'.out] at this; cases this
          · exact hno.out j h1 (by omega) h3⟩
        case measure => simp [intOf]; omega
    · have hz : (((p.shifts.length : Nat) : Int) % (k : Int) != 0) = true := by
        rw [show ((p.shifts.length : Nat) : Int) % (k : Int) = ((p.shifts.length % k : Nat) : Int) by simp]
        simp only [bne_iff_ne, ne_eq]
        omega
      have hne : k ≠ motifN p := fun e => hd (by have := hrep.out.1; rwa [← e] at this)
      have hcall' := Lib.hid hcall
      have hR' := Lib.hid hR
      have hd' := Lib.hid hd
      clear hd hR hcall
      go_wp2
      go_roundw
      case rel => exact ⟨k + 1, by omega, by omega, by go_num, hdr, Lib.hid fun j h1 h2 h3 => by
        by_cases hjk : j = k
        · subst hjk; exact hd'.out h3.1
        · exact hno.out j h1 (by omega) h3⟩
      case measure => simp [intOf]; omega
theorem pf_gcd (a b : Nat) (w : World) (ha : a ≤ 1000000) (hb : b ≤ 1000000) :
    Calls Try.prog 58 #[.int .i64 a, .int .i64 b] w fun e w' => e = .returned (.int .i64 (Nat.gcd a b)) ∧ ∃ n, w' = w.drewN n := by
  obtain ⟨G, hG⟩ : ∃ G, Nat.gcd a b = G := ⟨_, rfl⟩
  rw [hG]
  have hG' := Lib.hid hG
  clear hG
  go_enter Try.func58, Try.ntmps58
  go_wp2
  go_loopw [0, 1] (fun i j wr => ∃ x y : Nat, x ≤ 1000000 ∧ y ≤ 1000000 ∧ i = .int .i64 x ∧ j = .int .i64 y ∧ Hid (Nat.gcd x y = G) ∧ Hid (∃ n, wr = w.drewN n)) (fun _ j _ => (intOf j).toNat)
  case atStart => exact ⟨a, b, ha, hb, rfl, rfl, hG', Lib.hid ⟨0, rfl⟩⟩
  case round =>
    obtain ⟨x, y, hx, hy, rfl, rfl, hg, hdr⟩ := hrel
    obtain ⟨nd, hnd⟩ := hdr.out
    subst hnd
    by_cases h0 : y = 0
    · subst h0
      have hgx : x = G := by have := hg.out; simpa using this
      subst hgx
      go_wp2
      go_ret
      exact ⟨rfl, _, rfl⟩
    · have hz : ((y : Int) != 0) = true := by simp; omega
      have hlt := Nat.mod_lt x (show y > 0 by omega)
      have hmod : (x : Int) % (y : Int) = ((x % y : Nat) : Int) := by simp
      have hmod2 : (x : Int).tmod (y : Int) = ((x % y : Nat) : Int) := by rw [Int.tmod_eq_emod_of_nonneg (by omega)]; exact hmod
      have hgn : Nat.gcd y (x % y) = G := by rw [← hg.out, Nat.gcd_comm x y, Nat.gcd_rec y x, Nat.gcd_comm]
      have hgn' := Lib.hid hgn
      clear hgn
      generalize hM : x % y = m at hlt hmod hmod2 hgn'
      have hM' := Lib.hid hM
      clear hM
      go_wp2
      go_quiet (fail)
      go_wp2
      go_roundw
      case rel => exact ⟨y, m, hy, by omega, rfl, by first | rfl | (rw [hmod]) | (rw [hmod2]), hgn', Lib.hid ⟨_, World.drewN_drewN _ _ _⟩⟩
      case measure => simp [intOf]; omega
set_option maxHeartbeats 1000000 in
theorem pf_closes (b : Nat) (p : Prog) (w : World) (hb : IsBench w b p) (hp : BenchFacts p) :
    Calls Try.prog 36 #[.pointer (some ⟨b, 0, none⟩)] w fun e w' => e = .returned (.int .i64 (closeN p)) ∧ ∃ n, w' = w.drewN n := by
  have hb' := Lib.hid hb
  obtain ⟨v5, vl, -, -, -, -, -, -, -, -, c8, c9⟩ := hb.cells
  replace c9 : w.cell? ⟨b, 9, none⟩ = some (.int .i64 (per p)) := c9
  have hpp := per_pos hp
  have hr1 := hp.ros1
  have hN0 := hpp.1
  have hN1 : per p ≤ 96 := by omega
  have hmt := motif_le hp
  have hs1 := hp.sh1
  have htb := turn_bound hp
  have hcl := close_le hp
  obtain ⟨t, ht⟩ : ∃ t : Nat, turnI p = (t : Int) := ⟨(turnI p).toNat, by omega⟩
  have hc : closeN p = motifN p * (per p / Nat.gcd (per p) t) := by unfold closeN; rw [ht, Int.toNat_natCast]
  have hg1 : 1 ≤ Nat.gcd (per p) t := Nat.gcd_pos_of_pos_left _ hN0
  have hg2 : Nat.gcd (per p) t ≤ 96 := Nat.le_trans (Nat.gcd_le_left _ hN0) hN1
  rw [ht] at htb
  rw [hc] at hcl
  rw [ht, Int.toNat_natCast] at hcl
  clear hpp hb
  have hcall : ∀ W, IsBench W b p → Calls Try.prog 37 #[.pointer (some ⟨b, 0, none⟩)] W fun e w' => e = .returned (.tuple #[.int .i64 (motifN p), .int .i64 t]) ∧ ∃ n, w' = W.drewN n := fun W h => by rw [← ht]; exact pf_motif b p W h hp
  rw [hc]
  generalize motifN p = m at *
  generalize hPe : per p = N at *
  generalize hGe : Nat.gcd N t = g at *
  have hq : (N : Int) / (g : Int) = ((N / g : Nat) : Int) := by simp
  have hq2 : (N : Int).tdiv (g : Int) = ((N / g : Nat) : Int) := by rw [Int.tdiv_eq_ediv_of_nonneg (by omega)]; exact hq
  have k1 : ((g : Int) == 0) = false := by simp; omega
  have hgc : ∀ W, Calls Try.prog 58 #[.int .i64 N, .int .i64 t] W fun e w' => e = .returned (.int .i64 g) ∧ ∃ n, w' = W.drewN n := fun W => by
    have h := pf_gcd N t W (by omega) (by omega)
    rw [hGe] at h
    exact h
  generalize N / g = D at *
  have hm2 := hcl.2.2.2
  have hD2 := hcl.2.1
  have e2 : (m : Int) * (D : Int) = ((m * D : Nat) : Int) := by simp
  have j3 : IntKind.i64.wrap ((m : Int) * (D : Int)) = (m : Int) * D := IntWalk.i64_in _ (by omega)
  have j4 : IntKind.i64.wrap (D : Int) = D := IntWalk.i64_in _ (by omega)
  have hcall' := Lib.hid hcall
  have hgc' := Lib.hid hgc
  have hGe' := Lib.hid hGe
  have hPe' := Lib.hid hPe
  have hc' := Lib.hid hc
  have ht' := Lib.hid ht
  have hcl' := Lib.hid hcl
  have e2' := Lib.hid e2
  clear e2 hcl ht hc hPe hGe hgc hcall
  go_enter Try.func36, Try.ntmps36
  clear c8 c9
  go_wp2_with (first | (go_at_call 37; ((with_reducible refine (hcall'.out _ hb'.out).mono ?_); rintro e w' ⟨rfl, n1, hw⟩; have hb2 := Lib.hid (show IsBench w' b p from hw ▸ hb'.out.drewN n1); have hw' := Lib.hid hw; clear hw; obtain ⟨_, _, -, -, -, -, -, -, -, -, c8, c9⟩ := hb2.out.cells; replace c9 : w'.cell? ⟨b, 9, none⟩ = some (.int .i64 N) := (by rw [← hPe'.out]; exact c9))))
  go_quiet (first | (go_at_call 58; exact Calls.quiet_of (hgc'.out _)))
  go_wp2
  go_ret
  exact ⟨ret_int (by simp), n1 + nq, by rw [hw'.out, World.drewN_drewN]⟩
end Go.Proofs.Ytbikpadjmmgpcaa
namespace Go.Proofs.Ytbikpadjmmgpcaa
open Go.RowKit
set_option linter.unusedVariables false
set_option linter.unusedSimpArgs false
theorem Box.fam {w : World} {B : Nat} {v0 v1 v2 v3 v4 v5 : Value} {t : TypeId} {w1 : World} {ι : Type} {fam : ι → World} (h : Box w B (.cells #[v0, v1, v2, v3, v4, v5] t) w1) (hf : ∀ n, Below w1.heap.size w1 (fam n)) :
    (∀ n, (fam n).cell? ⟨B, 0, none⟩ = some v0) ∧ (∀ n, (fam n).cell? ⟨B, 1, none⟩ = some v1) ∧ (∀ n, (fam n).cell? ⟨B, 2, none⟩ = some v2) ∧ (∀ n, (fam n).cell? ⟨B, 3, none⟩ = some v3) ∧ (∀ n, (fam n).cell? ⟨B, 4, none⟩ = some v4) ∧ (∀ n, (fam n).cell? ⟨B, 5, none⟩ = some v5) :=
  ⟨fun n => (h.next (hf n)).prog.1, fun n => (h.next (hf n)).prog.2.1, fun n => (h.next (hf n)).prog.2.2.1, fun n => (h.next (hf n)).prog.2.2.2.1, fun n => (h.next (hf n)).prog.2.2.2.2.1, fun n => (h.next (hf n)).prog.2.2.2.2.2⟩
end Go.Proofs.Ytbikpadjmmgpcaa
namespace Go.Proofs.Ytbikpadjmmgpcaa
open Go.RowKit
set_option linter.unusedVariables false
set_option linter.unusedSimpArgs false
/-- A number, if there is no error. -/
def onOkI (E x : Int) : Int := if E = 0 then x else 0
theorem onOkI_zero (x : Int) : onOkI 0 x = x := rfl
theorem onOkI_ne {E : Int} (h : E ≠ 0) (x : Int) : onOkI E x = 0 := if_neg h
set_option maxHeartbeats 1000000 in
theorem pf_pat_Closes (v : Value) (p : Prog) (w : World) (hv : IsProg w v p) (E : Int) (hE : progE p = E) :
    Calls Try.prog 11 #[v] w fun e w' => e = .returned (.tuple #[.int .i64 (onOkI E (closeN p)), .int .i64 E]) ∧ Below w.heap.size w w' := by
  have hv0 := Lib.hid hv
  obtain ⟨v0, v1, v5, rfl, h0, h1, h5⟩ := hv
  clear h0 h1 h5
  by_cases hE0 : E = 0
  · subst hE0
    have hp := benchFacts hE
    have hE' := Lib.hid hE
    clear hE
    rw [onOkI_zero]
    go_enter Try.func11, Try.ntmps11
    go_wp2_with (first | (go_at_call 33; ((with_reducible refine (pf_mounted _ p _ (hv0.out.below (alc1 _ _)) 0 hE'.out).mono ?_); rintro e w' ⟨vb, rfl, hb1, -, hok⟩; obtain ⟨b, rfl, hbb, hbench⟩ := hok rfl; have hbox := (Box.start w _).next hb1; clear hb1 hok)) | (go_at_call 36; ((with_reducible refine (pf_closes b p _ hbench hp).mono ?_); rintro e w' ⟨rfl, n, rfl⟩)))
    go_ret2
    exact ⟨rfl, (hbox.drewN n).below⟩
  · have hne : (E != 0) = true := by simpa using hE0
    rw [onOkI_ne hE0]
    have hE' := Lib.hid hE
    have hE0' := Lib.hid hE0
    clear hE0 hE
    go_enter Try.func11, Try.ntmps11
    go_wp2_with (first | (go_at_call 33; ((with_reducible refine (pf_mounted _ p _ (hv0.out.below (alc1 _ _)) E hE'.out).mono ?_); rintro e w' ⟨vb, rfl, hb1, hn1, -⟩; have hn2 := hn1 hE0'.out; subst hn2; clear hn1)))
    go_ret2
    exact ⟨rfl, ((Box.start w _).next hb1).below⟩
set_option maxHeartbeats 1000000 in
theorem pf_pat_Motif (v : Value) (p : Prog) (w : World) (hv : IsProg w v p) (E : Int) (hE : progE p = E) :
    Calls Try.prog 12 #[v] w fun e w' => e = .returned (.tuple #[.int .i64 (onOkI E (motifN p)), .int .i64 (onOkI E (turnI p)), .int .i64 E]) ∧ Below w.heap.size w w' := by
  have hv0 := Lib.hid hv
  obtain ⟨v0, v1, v5, rfl, h0, h1, h5⟩ := hv
  clear h0 h1 h5
  by_cases hE0 : E = 0
  · subst hE0
    have hp := benchFacts hE
    have hE' := Lib.hid hE
    clear hE
    rw [onOkI_zero, onOkI_zero]
    go_enter Try.func12, Try.ntmps12
    go_wp2_with (first | (go_at_call 33; ((with_reducible refine (pf_mounted _ p _ (hv0.out.below (alc1 _ _)) 0 hE'.out).mono ?_); rintro e w' ⟨vb, rfl, hb1, -, hok⟩; obtain ⟨b, rfl, hbb, hbench⟩ := hok rfl; have hbox := (Box.start w _).next hb1; clear hb1 hok)) | (go_at_call 37; ((with_reducible refine (pf_motif b p _ hbench hp).mono ?_); rintro e w' ⟨rfl, n, rfl⟩)))
    go_ret3
    exact ⟨rfl, (hbox.drewN n).below⟩
  · have hne : (E != 0) = true := by simpa using hE0
    rw [onOkI_ne hE0, onOkI_ne hE0]
    have hE' := Lib.hid hE
    have hE0' := Lib.hid hE0
    clear hE0 hE
    go_enter Try.func12, Try.ntmps12
    go_wp2_with (first | (go_at_call 33; ((with_reducible refine (pf_mounted _ p _ (hv0.out.below (alc1 _ _)) E hE'.out).mono ?_); rintro e w' ⟨vb, rfl, hb1, hn1, -⟩; have hn2 := hn1 hE0'.out; subst hn2; clear hn1)))
    go_ret3
    exact ⟨rfl, ((Box.start w _).next hb1).below⟩
end Go.Proofs.Ytbikpadjmmgpcaa
