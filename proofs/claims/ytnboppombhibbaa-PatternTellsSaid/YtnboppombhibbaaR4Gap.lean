/- The reference's Gap. -/
import Derived.Test.YtnboppombhibbaaP4Gap
namespace Go.Proofs.Ytnboppombhibbaa
open Go.RowKit
set_option linter.unusedVariables false
set_option linter.unusedSimpArgs false
theorem atR_at {f : List Int} {i : Int} {q : Nat} (hq : i % (f.length : Int) = (q : Int)) (hl : q < f.length) : atR f i = f[q] := by
  have h1 : atR f i = atR f (q : Int) := atR_mod _ _ _ (by rw [hq]; exact (Int.emod_eq_of_lt (by omega) (by omega)).symm)
  rw [h1, atR_nat q hl]
set_option maxRecDepth 100000 in
set_option maxHeartbeats 4000000 in
theorem pf_r4_Gap_ok (v : Value) (p : Prog) (w : World) (hv : IsProg w v p) (hE : progE p = 0) :
    Calls Try.prog 36 #[v] w fun e w' => e = .returned (.tuple #[.int .i64 (gapI p), .int .i64 0]) ∧ Below w.heap.size w w' := by
  have hv0 := Lib.hid hv
  obtain ⟨v0, v1, v5, rfl, h0, h1, h5⟩ := hv
  have h5' := Lib.hid h5
  obtain ⟨A5, c5, rfl, hc5, hm5, _, _⟩ := id h5
  unfold maxLen at hm5
  clear h0 h1 h5
  have hp := benchFacts hE
  have hs1 := hp.sh1
  have hr0 := hp.ros0
  have hr1 := hp.ros1
  have hth := hp.throw
  have hadv := hp.adv
  have hlo := lift_ok hp.ros hp.rub
  have hlh := (rosOk_iff.1 hlo).2.2
  have hgb := gap_bound hp
  have hL0 := liftL_length p.ros p.rub
  have hrow := gapRow_succ p
  have hlift : ∀ W V, IsProg W V p → Calls Try.prog 52 #[V] W fun e w' => ∃ v', e = .returned v' ∧ Below W.heap.size W w' ∧ w'.ownsRow W.heap.size 3 1 v' (liftL p.ros p.rub).length ((liftL p.ros p.rub).map vint) := fun W V h => pf_r4_lift V p W h hp
  obtain ⟨L, hLe⟩ : ∃ L, liftL p.ros p.rub = L := ⟨_, rfl⟩
  rw [hLe] at hlh hL0 hlo
  simp only [hLe] at hlift hrow
  have hpre := gapPre_succ p
  have hE' := Lib.hid hE
  have hlift' := Lib.hid hlift
  have hrow' := Lib.hid hrow
  have hpre' := Lib.hid hpre
  have hgb' := Lib.hid hgb
  have hlo' := Lib.hid hlo
  have hLe' := Lib.hid hLe
  have hlh' := Lib.hid hlh
  clear hlh hLe hlo hgb hpre hrow hlift hE
  unfold gapI
  go_enter Try.func36, Try.ntmps36
  go_wp2_with (first | (go_at_call 23; ((with_reducible refine (pf_r4_Check _ p _ (hv0.out.below (alc1 _ _)) 0 hE'.out).mono ?_); rintro e w' ⟨rfl, hb⟩; have hbox := (Box.start w _).next hb; obtain ⟨p0, p1, p2, p3, p4, p5⟩ := hbox.prog; clear hb)) | (go_at_call 52; ((with_reducible refine (hlift'.out _ _ (hv0.out.below hbox.below)).mono ?_); rintro e w' ⟨vl, rfl, hb, ho⟩; have hbox2 := hbox.next hb; have hI := Lib.hid (own_ints ho); clear hb hbox ho p0 p1 p2 p3 p4 p5; obtain ⟨lA, lc, rfl, hlc, hlm, -, -⟩ := id hI.out; rw [hL0] at hI hlc)))
  have hbel := Lib.hid hbox2.below
  have hbx : Box w' w.heap.size (.cells #[v0, v1, .int .i64 p.start, .int .i64 p.throw, .int .i64 p.adv, .slice A5 p.shifts.length c5] 24) w' := ⟨Below.refl _ _, hbox2.block⟩
  unfold maxLen at hlm
  clear hbox2
  go_loopw [8, 7, 9] (fun i m _ wr => ∃ k : Nat, k ≤ p.shifts.length ∧ i = .int .i64 k ∧ m = .int .i64 (minL 1099511627776 (gapPre p k)) ∧ Box w' w.heap.size (.cells #[v0, v1, .int .i64 p.start, .int .i64 p.throw, .int .i64 p.adv, .slice A5 p.shifts.length c5] 24) wr) (fun i _ _ _ => p.shifts.length - (intOf i).toNat)
  case atStart => exact ⟨0, Nat.zero_le _, rfl, by simp [gapPre, minL], hbx⟩
  case round =>
    clear hbx
    obtain ⟨k, hk, rfl, rfl, hbx⟩ := hrel
    obtain ⟨p0, p1, p2, p3, p4, p5⟩ := hbx.prog
    by_cases hlt : k < p.shifts.length
    · have hM := Lib.hid (hpre'.out k hlt)
      have hxs := hp.sh k hlt
      obtain ⟨x, hx⟩ : ∃ x, p.shifts[k] = x := ⟨_, rfl⟩
      rw [hx] at hxs hM
      have hmb : Hid (∀ a, a ≤ p.ros.length → -200000 ≤ minL 1099511627776 (gapPre p k ++ gapRow p x a) ∧ minL 1099511627776 (gapPre p k ++ gapRow p x a) ≤ 1099511627776) := Lib.hid fun a ha => minL_bound _ _ _ _ (by omega) fun y hy => by
        have hsub : y ∈ gapPre p p.shifts.length := by
          have e1 : gapPre p p.shifts.length = gapPre p (k + 1) ++ (p.shifts.drop (k + 1)).flatMap fun s => gapRow p s p.ros.length := by
            unfold gapPre
            rw [List.take_of_length_le (Nat.le_refl _), ← List.flatMap_append, List.take_append_drop]
          rw [e1, hM.out, List.mem_append, List.mem_append]
          rw [List.mem_append] at hy
          rcases hy with hy | hy
          · exact .inl (.inl hy)
          · refine .inl (.inr ?_)
            unfold gapRow at hy ⊢
            rw [List.mem_map] at hy ⊢
            obtain ⟨j, hj, e⟩ := hy
            exact ⟨j, by rw [List.mem_range] at hj ⊢; omega, e⟩
        have := hgb'.out y hsub
        omega
      have hx' := Lib.hid hx
      clear hx
      go_wp2
      rename World => w0
      go_loopw [9, 7] (fun i m wi => ∃ a : Nat, a ≤ p.ros.length ∧ i = .int .i64 a ∧ m = .int .i64 (minL 1099511627776 (gapPre p k ++ gapRow p x a)) ∧ Box w' w.heap.size (.cells #[v0, v1, .int .i64 p.start, .int .i64 p.throw, .int .i64 p.adv, .slice A5 p.shifts.length c5] 24) wi) (fun i _ _ => p.ros.length - (intOf i).toNat)
      case atStart => exact ⟨0, Nat.zero_le _, rfl, by simp [gapRow], hbx⟩
      case round =>
        clear hbx p0 p1 p2 p3 p4 p5
        obtain ⟨a, ha, rfl, rfl, hbx⟩ := hrel
        obtain ⟨p0, p1, p2, p3, p4, p5⟩ := hbx.prog
        by_cases hal : a < p.ros.length
        · obtain ⟨sb, so, hA, hbz, hck⟩ := (h5'.out.below (hbel.out.trans (hbx.below.mono hbel.out.size))).look hlt
          subst hA
          rw [hx'.out] at hck
          have haL : a < L.length := by omega
          obtain ⟨lb, lo, hA, hlz, hla⟩ := (hI.out.below hbx.below).look haL
          subst hA
          have hq0 := Int.emod_nonneg ((a : Int) - x) (show (p.ros.length : Int) ≠ 0 by omega)
          have hq1 := Int.emod_lt_of_pos ((a : Int) - x) (show (0 : Int) < (p.ros.length : Int) by omega)
          obtain ⟨q, hq⟩ : ∃ q : Nat, ((a : Int) - x) % (p.ros.length : Int) = (q : Int) := ⟨_, (Int.toNat_of_nonneg hq0).symm⟩
          have hqL : q < L.length := by omega
          obtain ⟨lb2, lo2, hA2, hlz2, hlq⟩ := (hI.out.below hbx.below).look hqL
          injection hA2 with hA2
          injection hA2 with e1 e2
          subst e1 e2
          have hsuc := hrow'.out x a
          rw [atR_at (f := L) (i := (a : Int) - x) (q := q) (by rw [hL0]; exact hq) hqL, atR_nat a haL] at hsuc
          have hm0 := hmb.out a (by omega)
          have hms : minL 1099511627776 (gapPre p k ++ gapRow p x (a + 1)) = min (minL 1099511627776 (gapPre p k ++ gapRow p x a)) (p.adv + p.throw * (L[q] - L[a])) := by rw [hsuc, ← List.append_assoc, minL_snoc]
          have hy1 := hlh'.out q hqL
          have hy2 := hlh'.out a haL
          generalize L[q] = y at hlq hms hy1
          generalize L[a] = z at hla hms hy2
          have hmd := mul_diff p.throw y z hth hy1 hy2
          have hcall : ∀ W : World, Calls Try.prog 71 #[.int .i64 ((a : Int) - x), .int .i64 p.ros.length] W fun e w' => e = .returned (.int .i64 q) ∧ W = w' := fun W => by
            have h := pf_r3_Around ((a : Int) - x) p.ros.length W (by omega) (by omega) (by unfold Mid; omega)
            rw [hq] at h
            exact h
          generalize minL 1099511627776 (gapPre p k ++ gapRow p x a) = m at hm0 hms
          have i1 : (0 : Int) ≤ (k : Int) := by omega
          have i2 : (k : Int) < (p.shifts.length : Int) := by omega
          have i3 : (0 : Int) ≤ (a : Int) := by omega
          have i4 : (a : Int) < (p.ros.length : Int) := by omega
          have i5 : (0 : Int) ≤ (q : Int) := by omega
          have i6 : (q : Int) < (p.ros.length : Int) := by omega
          have j1 : IntKind.i64.wrap ((a : Int) - x) = (a : Int) - x := IntWalk.i64_in _ (by omega)
          have j2 : IntKind.i64.wrap (y - z) = y - z := IntWalk.i64_in _ (by omega)
          have j3 : IntKind.i64.wrap (p.throw * (y - z)) = p.throw * (y - z) := IntWalk.i64_in _ (by omega)
          have j4 : IntKind.i64.wrap (p.adv + p.throw * (y - z)) = p.adv + p.throw * (y - z) := IntWalk.i64_in _ (by omega)
          have hcall' := Lib.hid hcall
          have hms' := Lib.hid hms
          have hq' := Lib.hid hq
          have hsuc' := Lib.hid hsuc
          clear hsuc hq hms hcall
          go_wp2
          go_quiet (first | (go_at_call 71; exact quiet_same' (hcall'.out _)))
          go_wp2
          go_roundw
          case rel => exact ⟨a + 1, by omega, by go_num, by rw [hms'.out]; show Value.int _ _ = _; congr 1; first | rfl | (split <;> omega) | omega, hbx.drewN _⟩
          case measure => simp [intOf]; omega
        · obtain rfl : a = p.ros.length := by omega
          go_wp2
          go_roundw
          case rel => exact ⟨k + 1, by omega, by go_num, by rw [hM.out], hbx⟩
          case measure => simp [intOf]; omega
    · obtain rfl : k = p.shifts.length := by omega
      go_wp2
      go_ret2
      exact ⟨rfl, hbel.out.trans (hbx.below.mono hbel.out.size)⟩
set_option maxHeartbeats 1000000 in
theorem pf_r4_Gap (v : Value) (p : Prog) (w : World) (hv : IsProg w v p) (E : Int) (hE : progE p = E) :
    Calls Try.prog 36 #[v] w fun e w' => e = .returned (.tuple #[.int .i64 (onOkI E (gapI p)), .int .i64 E]) ∧ Below w.heap.size w w' := by
  by_cases hE0 : E = 0
  · subst hE0
    exact pf_r4_Gap_ok v p w hv hE
  · have hv0 := Lib.hid hv
    obtain ⟨v0, v1, v5, rfl, h0, h1, h5⟩ := hv
    clear h0 h1 h5
    have hne : (E != 0) = true := by simpa using hE0
    rw [onOkI_ne hE0]
    have hE' := Lib.hid hE
    have hE0' := Lib.hid hE0
    clear hE0 hE
    go_enter Try.func36, Try.ntmps36
    go_wp2_with (first | (go_at_call 23; ((with_reducible refine (pf_r4_Check _ p _ (hv0.out.below (alc1 _ _)) E hE'.out).mono ?_); rintro e w' ⟨rfl, hb1⟩)))
    go_ret2
    exact ⟨rfl, ((Box.start w _).next hb1).below⟩
end Go.Proofs.Ytnboppombhibbaa
