/- The reference of layer 4: motif, closing. -/
import Derived.Test.YtnboppombhibbaaMotifLaw
import Derived.Test.YtnboppombhibbaaR4Check
import Derived.Test.YtnboppombhibbaaQTail
import Derived.Test.YtnboppombhibbaaP4Motif
namespace Go.Proofs.Ytnboppombhibbaa
open Go.RowKit
set_option linter.unusedVariables false
set_option linter.unusedSimpArgs false
theorem Box.fam {w : World} {B : Nat} {v0 v1 v2 v3 v4 v5 : Value} {t : TypeId} {w1 : World} {ι : Type} {fam : ι → World} (h : Box w B (.cells #[v0, v1, v2, v3, v4, v5] t) w1) (hf : ∀ n, Below w1.heap.size w1 (fam n)) :
    (∀ n, (fam n).cell? ⟨B, 0, none⟩ = some v0) ∧ (∀ n, (fam n).cell? ⟨B, 1, none⟩ = some v1) ∧ (∀ n, (fam n).cell? ⟨B, 2, none⟩ = some v2) ∧ (∀ n, (fam n).cell? ⟨B, 3, none⟩ = some v3) ∧ (∀ n, (fam n).cell? ⟨B, 4, none⟩ = some v4) ∧ (∀ n, (fam n).cell? ⟨B, 5, none⟩ = some v5) :=
  ⟨fun n => (h.next (hf n)).prog.1, fun n => (h.next (hf n)).prog.2.1, fun n => (h.next (hf n)).prog.2.2.1, fun n => (h.next (hf n)).prog.2.2.2.1, fun n => (h.next (hf n)).prog.2.2.2.2.1, fun n => (h.next (hf n)).prog.2.2.2.2.2⟩
set_option maxRecDepth 100000 in
set_option maxHeartbeats 4000000 in
theorem pf_r4_motif (v : Value) (p : Prog) (w : World) (hv : IsProg w v p) (hp : BenchFacts p) :
    Calls Try.prog 73 #[v] w fun e w' => e = .returned (.tuple #[.int .i64 (motifN p), .int .i64 (turnI p)]) ∧ Below w.heap.size w w' := by
  have hv0 := Lib.hid hv
  obtain ⟨v0, v1, v5, rfl, h0, h1, h5⟩ := hv
  have h5' := Lib.hid h5
  obtain ⟨A5, c5, rfl, hc5, hm5, _, _⟩ := id h5
  clear h0 h1 h5
  unfold maxLen at hm5
  have hs0 := hp.sh0
  have hs1 := hp.sh1
  have hpp := per_pos hp
  have hr1 := hp.ros1
  have hN0 := hpp.1
  have hN1 : per p ≤ 96 := by omega
  have hper : ∀ W V, IsProg W V p → Calls Try.prog 70 #[V] W fun e w' => e = .returned (.int .i64 (per p)) ∧ Below W.heap.size W w' := fun W V h => pf_r4_Period V p W h hp
  have hphase : ∀ (m : Nat) W V, m ≤ 1000 → IsProg W V p → Calls Try.prog 56 #[V, .int .i64 m] W fun e w' => e = .returned (.int .i64 (phaseI p m)) ∧ Below W.heap.size W w' := fun m W V hm h => pf_r4_Phase V p m W h hp (by omega) (by omega)
  obtain ⟨N, hN⟩ : ∃ N, per p = N := ⟨_, rfl⟩
  rw [hN] at hN0 hN1
  simp only [hN] at hper
  have hper' := Lib.hid hper
  have hphase' := Lib.hid hphase
  have hN' := Lib.hid hN
  clear hN hphase hper
  clear hpp
  have hbox := Box.start w (.cells #[v0, v1, .int .i64 p.start, .int .i64 p.throw, .int .i64 p.adv, .slice A5 p.shifts.length c5] 24)
  go_enter Try.func73, Try.ntmps73
  go_wp2
  obtain ⟨ι, fam, hne, hf1, hf2, hf0⟩ := fam_below _ _ (Nat.le_refl (w.alloc (.cells #[v0, v1, .int .i64 p.start, .int .i64 p.throw, .int .i64 p.adv, .slice A5 p.shifts.length c5] 24)).heap.size)
  obtain ⟨P0, P1, P2, P3, P4, P5⟩ := hbox.fam hf1
  have hf1' := Lib.hid hf1
  have hf2' := Lib.hid hf2
  clear hf1 hf2
  refine wp_region_fam hf0 (by kernel_rfl) (by kernel_rfl) ?_
  repeat (go_big_quiet_step ((go_at_call 70; exact fam_call hf2'.out (hper'.out _ _ (hv0.out.below (hbox.next (hf1'.out _)).below)))))
  refine wpQuiet_nil ?_
  intro nq
  have hW := hf1'.out nq
  clear P0 P1 P2 P3 P4 P5 hf0
  generalize fam nq = W1 at hW ⊢
  clear hf1' hf2'
  replace hbox := hbox.next hW
  clear hW
  go_wp2
  go_loopw [6] (fun i wr => ∃ m : Nat, 1 ≤ m ∧ m ≤ p.shifts.length ∧ i = .int .i64 m ∧ Box w w.heap.size (.cells #[v0, v1, .int .i64 p.start, .int .i64 p.throw, .int .i64 p.adv, .slice A5 p.shifts.length c5] 24) wr ∧ Hid (∀ j, 1 ≤ j → j < m → cycB p j p.shifts.length = false)) (fun i _ => p.shifts.length - (intOf i).toNat)
  case atStart => exact ⟨1, Nat.le_refl _, hs0, rfl, hbox, Lib.hid fun j _ h => absurd h (by omega)⟩
  case round =>
    clear hbox
    obtain ⟨m, hm1, hm2, rfl, hbox, hno⟩ := hrel
    by_cases hlt : m < p.shifts.length
    · go_wp2
      rename World => w0
      go_loopw [8, 7] (fun i g wi => ∃ k : Nat, k ≤ p.shifts.length ∧ i = .int .i64 k ∧ g = .bool (cycB p m k) ∧ Box w w.heap.size (.cells #[v0, v1, .int .i64 p.start, .int .i64 p.throw, .int .i64 p.adv, .slice A5 p.shifts.length c5] 24) wi) (fun i _ _ => p.shifts.length - (intOf i).toNat)
      case atStart => exact ⟨0, Nat.zero_le _, rfl, rfl, hbox⟩
      case round =>
        clear hbox
        obtain ⟨k, hk, rfl, rfl, hbox⟩ := hrel
        by_cases hkl : k < p.shifts.length
        · have hsuc := Lib.hid (cycB_succ p m k)
          obtain ⟨B, hB⟩ : ∃ B, cycB p m k = B := ⟨_, rfl⟩
          rw [hB]
          have hB' := Lib.hid hB
          clear hB
          obtain ⟨p0, p1, p2, p3, p4, p5⟩ := hbox.prog
          cases B with
          | false =>
            have hfin : cycB p m (k + 1) = false := by rw [hsuc.out, hB'.out]; rfl
            have hfin' := Lib.hid hfin
            clear hfin
            go_wp2
            go_quiet (fail)
            go_wp2
            go_roundw
            case rel => exact ⟨k + 1, by omega, by go_num, by rw [hfin'.out], hbox.drewN _⟩
            case measure => simp [intOf]; omega
          | true =>
            have hq1 : (k + m) % p.shifts.length < p.shifts.length := Nat.mod_lt _ (by omega)
            obtain ⟨sb, so, hA, hbz, hck⟩ := (h5'.out.below hbox.below).look hkl
            obtain ⟨sb2, so2, hA2, hbz2, hck2⟩ := (h5'.out.below hbox.below).look hq1
            subst hA
            injection hA2 with hA2
            injection hA2 with e1 e2
            subst e1 e2
            have hx := hp.sh k hkl
            have hy := hp.sh _ hq1
            have hs := hsuc.out
            rw [hB'.out, Bool.true_and] at hs
            simp only [List.getD_eq_getElem?_getD, List.getElem?_eq_getElem hkl, List.getElem?_eq_getElem hq1, Option.getD_some, hN'.out] at hs
            have hmod : (((k : Int) + (m : Int)) % (p.shifts.length : Int)) = (((k + m) % p.shifts.length : Nat) : Int) := by simp
            generalize p.shifts[k] = x at hck hx hs
            generalize p.shifts[(k + m) % p.shifts.length] = y at hck2 hy hs
            generalize hQ : (k + m) % p.shifts.length = q at hq1 hmod hck2
            have i1 : (0 : Int) ≤ (k : Int) := by omega
            have i2 : (k : Int) < (p.shifts.length : Int) := by omega
            have i3 : (0 : Int) ≤ (q : Int) := by omega
            have i4 : (q : Int) < (p.shifts.length : Int) := by omega
            have j1 : IntKind.i64.wrap ((k : Int) + (m : Int)) = (k : Int) + m := IntWalk.i64_in _ (by omega)
            have j2 : ((k : Int) + (m : Int)).tmod (p.shifts.length : Int) = (q : Int) := by rw [Int.tmod_eq_emod_of_nonneg (by omega)]; exact hmod
            have j3 : x.tmod (N : Int) = x % N := Int.tmod_eq_emod_of_nonneg hx.1
            have j4 : y.tmod (N : Int) = y % N := Int.tmod_eq_emod_of_nonneg hy.1
            have k1 : ((N : Int) == 0) = false := by simp; omega
            have k2 : ((p.shifts.length : Int) == 0) = false := beq_eq_false_iff_ne.2 (by omega)
            have hQ' := Lib.hid hQ
            clear hQ
            by_cases hxy : x % (N : Int) = y % (N : Int)
            · rw [decide_eq_true hxy] at hs
              have hz : (x % (N : Int) == y % (N : Int)) = true := by simpa using hxy
              have hs' := Lib.hid hs
              have hxy' := Lib.hid hxy
              clear hxy hs
              go_wp2
              go_quiet (fail)
              go_wp2
              go_roundw
              case rel => exact ⟨k + 1, by omega, by go_num, by rw [hs'.out], hbox.drewN _⟩
              case measure => simp [intOf]; omega
            · rw [decide_eq_false hxy] at hs
              have hz : (x % (N : Int) == y % (N : Int)) = false := by simpa using hxy
              have hs' := Lib.hid hs
              have hxy' := Lib.hid hxy
              clear hxy hs
              go_wp2
              go_quiet (fail)
              go_wp2
              go_roundw
              case rel => exact ⟨k + 1, by omega, by go_num, by rw [hs'.out], hbox.drewN _⟩
              case measure => simp [intOf]; omega
        · obtain rfl : k = p.shifts.length := by omega
          obtain ⟨B, hB⟩ : ∃ B, cycB p m p.shifts.length = B := ⟨_, rfl⟩
          rw [hB]
          have hB' := Lib.hid hB
          clear hB
          cases B with
          | true =>
            have hmm := refMotif_hit hp hm1 hB'.out hno.out
            have hturn : turnI p = phaseI p m % (N : Int) := by unfold turnI; rw [← hmm, hN'.out]
            have hq := (phaseI_bound hp m).1
            have hmm' := Lib.hid hmm
            have hturn' := Lib.hid hturn
            clear hturn hmm
            have hcall := Lib.hid (hphase'.out m)
            generalize phaseI p m = y at hq hturn' hcall
            have k1 : ((N : Int) == 0) = false := by simp; omega
            have j1 : y.tmod (N : Int) = y % N := Int.tmod_eq_emod_of_nonneg hq
            obtain ⟨ι, fam, hne, hf1, hf2, hf0⟩ := fam_below _ wr (Nat.le_refl _)
            obtain ⟨P0, P1, P2, P3, P4, P5⟩ := hbox.fam hf1
            have hf1' := Lib.hid hf1
            have hf2' := Lib.hid hf2
            clear hf2 hf1
            go_wp2
            refine wp_region_fam hf0 (by kernel_rfl) (by kernel_rfl) ?_
            repeat (go_big_quiet_step ((go_at_call 56; exact fam_call hf2'.out (hcall.out _ _ (by omega) (hv0.out.below (hbox.next (hf1'.out _)).below)))))
            refine wpQuiet_nil ?_
            intro nq
            have hW := hf1'.out nq
            clear P0 P1 P2 P3 P4 P5 hf0
            generalize fam nq = W1 at hW ⊢
            clear hf1' hf2'
            go_wp2
            go_ret2
            exact ⟨by rw [hturn'.out, ← hmm'.out]; exact rfl, (hbox.next hW).below⟩
          | false =>
            go_wp2
            go_roundw
            case rel => exact ⟨m + 1, by omega, by omega, by go_num, hbox, Lib.hid fun j h1 h2 => by
              by_cases hjm : j = m
              · subst hjm; exact hB'.out
              · exact hno.out j h1 (by omega)⟩
            case measure => simp [intOf]; omega
    · obtain rfl : m = p.shifts.length := by omega
      have hmm := refMotif_end hp hno.out
      have hturn : turnI p = phaseI p p.shifts.length % (N : Int) := by unfold turnI; rw [← hmm, hN'.out]
      have hq := (phaseI_bound hp p.shifts.length).1
      have hmm' := Lib.hid hmm
      have hturn' := Lib.hid hturn
      clear hturn hmm
      have hcall := Lib.hid (hphase'.out p.shifts.length)
      generalize phaseI p p.shifts.length = y at hq hturn' hcall
      have k1 : ((N : Int) == 0) = false := by simp; omega
      have j1 : y.tmod (N : Int) = y % N := Int.tmod_eq_emod_of_nonneg hq
      obtain ⟨ι, fam, hne, hf1, hf2, hf0⟩ := fam_below _ wr (Nat.le_refl _)
      obtain ⟨P0, P1, P2, P3, P4, P5⟩ := hbox.fam hf1
      have hf1' := Lib.hid hf1
      have hf2' := Lib.hid hf2
      clear hf2 hf1
      go_wp2
      refine wp_region_fam hf0 (by kernel_rfl) (by kernel_rfl) ?_
      repeat (go_big_quiet_step ((go_at_call 56; exact fam_call hf2'.out (hcall.out _ _ (by omega) (hv0.out.below (hbox.next (hf1'.out _)).below)))))
      refine wpQuiet_nil ?_
      intro nq
      have hW := hf1'.out nq
      clear P0 P1 P2 P3 P4 P5 hf0
      generalize fam nq = W1 at hW ⊢
      clear hf1' hf2'
      go_wp2
      go_ret2
      exact ⟨by rw [hturn'.out, ← hmm'.out]; exact rfl, (hbox.next hW).below⟩
set_option maxRecDepth 100000 in
set_option maxHeartbeats 1000000 in
theorem pf_r4_closing (v : Value) (p : Prog) (w : World) (hv : IsProg w v p) (hp : BenchFacts p) :
    Calls Try.prog 69 #[v] w fun e w' => e = .returned (.int .i64 (closeN p)) ∧ Below w.heap.size w w' := by
  have hv0 := Lib.hid hv
  obtain ⟨v0, v1, v5, rfl, h0, h1, h5⟩ := hv
  clear h0 h1 h5
  have hs1 := hp.sh1
  have hpp := per_pos hp
  have hr1 := hp.ros1
  have hN0 := hpp.1
  have hN1 : per p ≤ 96 := by omega
  have hmt := motif_le hp
  have htb := turn_bound hp
  have hcl := close_le hp
  obtain ⟨t, ht⟩ : ∃ t : Nat, turnI p = (t : Int) := ⟨(turnI p).toNat, by omega⟩
  have hc : closeN p = motifN p * (per p / Nat.gcd (per p) t) := by unfold closeN; rw [ht, Int.toNat_natCast]
  rw [ht] at htb
  rw [hc] at hcl
  rw [ht, Int.toNat_natCast] at hcl
  have hiff := fun k => times_iff (per p) t k hN0
  have hper : ∀ W V, IsProg W V p → Calls Try.prog 70 #[V] W fun e w' => e = .returned (.int .i64 (per p)) ∧ Below W.heap.size W w' := fun W V h => pf_r4_Period V p W h hp
  have hmot : ∀ W V, IsProg W V p → Calls Try.prog 73 #[V] W fun e w' => e = .returned (.tuple #[.int .i64 (motifN p), .int .i64 t]) ∧ Below W.heap.size W w' := fun W V h => by rw [← ht]; exact pf_r4_motif V p W h hp
  rw [hc]
  generalize motifN p = m at hmt hcl hmot ⊢
  generalize per p = N at hN0 hN1 htb hcl hiff hper ⊢
  generalize hD : N / Nat.gcd N t = D at hcl hiff ⊢
  have hm2 := hcl.2.2.2
  have hD1 := hcl.1
  have hD2 := hcl.2.1
  have hper' := Lib.hid hper
  have hmot' := Lib.hid hmot
  have hiff' := Lib.hid hiff
  have hD' := Lib.hid hD
  have hc' := Lib.hid hc
  have ht' := Lib.hid ht
  have hpp' := Lib.hid hpp
  have hcl' := Lib.hid hcl
  clear hcl hpp ht hc hD hiff hmot hper
  go_enter Try.func69, Try.ntmps69
  go_wp2_with (first | (go_at_call 73; ((with_reducible refine (hmot'.out _ _ (hv0.out.below (alc1 _ _))).mono ?_); rintro e w' ⟨rfl, hb⟩; have hbox := (Box.start w _).next hb; obtain ⟨p0, p1, p2, p3, p4, p5⟩ := hbox.prog; clear hb)) | (go_at_call 70; ((with_reducible refine (hper'.out _ _ (hv0.out.below hbox.below)).mono ?_); rintro e w' ⟨rfl, hb⟩; have hbel := Lib.hid (hbox.next hb).below; clear hb p0 p1 p2 p3 p4 p5)))
  go_loop [6] (fun i => ∃ k : Nat, 1 ≤ k ∧ k ≤ D ∧ i = .int .i64 k ∧ Hid (∀ j, 1 ≤ j → j < k → ¬ D ∣ j)) (fun i => D - (intOf i).toNat)
  case atStart => exact ⟨1, Nat.le_refl _, hD1, rfl, Lib.hid fun j _ h => absurd h (by omega)⟩
  case round =>
    obtain ⟨k, hk1, hk, rfl, hno⟩ := hrel
    have hkt : k * t ≤ 96 * 96 := Nat.mul_le_mul (by omega) (by omega)
    have e1 : (k : Int) * (t : Int) = ((k * t : Nat) : Int) := by simp
    have j0 : IntKind.i64.wrap ((k : Int) * (t : Int)) = (k : Int) * t := IntWalk.i64_in _ (by omega)
    have hmod : ((k : Int) * (t : Int)) % (N : Int) = ((k * t % N : Nat) : Int) := by simp
    have j1 : ((k : Int) * (t : Int)).tmod (N : Int) = ((k * t % N : Nat) : Int) := by rw [Int.tmod_eq_emod_of_nonneg (by omega)]; exact hmod
    have k1 : ((N : Int) == 0) = false := by simp; omega
    have hi := hiff'.out k
    by_cases hd : D ∣ k
    · have hkD : k = D := by have := Nat.le_of_dvd hk1 hd; omega
      subst hkD
      have hz0 : k * t % N = 0 := hi.2 hd
      replace hmod : ((k : Int) * (t : Int)) % (N : Int) = 0 := by rw [hmod, hz0]; rfl
      replace j1 : ((k : Int) * (t : Int)).tmod (N : Int) = 0 := by rw [j1, hz0]; rfl
      have j3 : IntKind.i64.wrap ((m : Int) * (k : Int)) = (m : Int) * k := IntWalk.i64_in _ (by omega)
      clear e1 hi hd hz0
      go_wp2
      go_ret
      exact ⟨ret_int (by simp), hbel.out⟩
    · have hz0 : k * t % N ≠ 0 := fun e => hd (hi.1 e)
      have hz : (((k * t % N : Nat) : Int) != 0) = true := by simp; omega
      have hne : k ≠ D := fun e => hd (by rw [e]; exact Nat.dvd_refl _)
      generalize k * t % N = q at hmod j1 hz
      clear e1 hi hz0
      have hd' := Lib.hid hd
      clear hd
      go_wp2
      go_round
      case rel => exact ⟨k + 1, by omega, by omega, by go_num, Lib.hid fun j h1 h2 => by
        by_cases hjk : j = k
        · subst hjk; exact hd'.out
        · exact hno.out j h1 (by omega)⟩
      case measure => simp [intOf]; omega
end Go.Proofs.Ytnboppombhibbaa
