/- The law PatternGap: its walk. -/
import Derived.Test.YtnboppombhibbaaAlive
import Derived.Test.YtnboppombhibbaaPhaseLaw
import Derived.Test.YtnboppombhibbaaL4Cuts
namespace Go.Proofs.Ytnboppombhibbaa
open Go.RowKit
set_option linter.unusedVariables false
set_option linter.unusedSimpArgs false
def rowB (p : Prog) (k m : Nat) : Bool := (List.range m).any fun a => stepI p (k : Int) a == gapI p
def fndB (p : Prog) (k : Nat) : Bool := (List.range k).any fun a => rowB p a p.ros.length
theorem rowB_succ (p : Prog) (k m : Nat) : rowB p k (m + 1) = (rowB p k m || (stepI p (k : Int) m == gapI p)) := by unfold rowB; rw [List.range_succ, List.any_append]; simp
theorem fndB_succ (p : Prog) (k : Nat) : fndB p (k + 1) = (fndB p k || rowB p k p.ros.length) := by unfold fndB; rw [List.range_succ, List.any_append]; simp
theorem fndB_all {p : Prog} (hp : BenchFacts p) : fndB p p.shifts.length = true := by
  obtain ⟨k, m, hk, hm, he⟩ := gap_found hp
  unfold fndB
  rw [List.any_eq_true]
  refine ⟨k, List.mem_range.2 hk, ?_⟩
  unfold rowB
  rw [List.any_eq_true]
  exact ⟨m, List.mem_range.2 hm, by simp [he]⟩
theorem cut_val_bound {p : Prog} (hp : BenchFacts p) (j : Int) (hj : -5001 ≤ j ∧ j ≤ 5001) (m : Nat) (h : m < p.ros.length) : -6000000 ≤ (cutL p j).getD m 0 ∧ (cutL p j).getD m 0 ≤ 6000000 := by
  have h1 := shape_bound hp j m (by rw [shapeL_length]; exact h)
  have h2 := mul_adv j p.adv hj hp.adv
  have h3 := hp.start
  have e : (cutL p j).getD m 0 = (shapeL p j)[m]'(by rw [shapeL_length]; exact h) + (p.start + j * p.adv) := by
    simp only [List.getD_eq_getElem?_getD, List.getElem?_eq_getElem (show m < (cutL p j).length by rw [cutL_len]; exact h), Option.getD_some]
    unfold cutL
    rw [List.getElem_map]
  omega
theorem cutE_ok {p : Prog} (h : progE p = 0) {j : Int} (hj : -5000 ≤ j ∧ j ≤ 5000) : cutE p j = 0 := by
  unfold cutE
  rw [if_neg (by simp [h]), within_iff.2 hj]
  rfl
theorem gap_val_bound {p : Prog} (hp : BenchFacts p) : -200000 ≤ gapI p ∧ gapI p ≤ 200000 := by
  have h0 := hp.ros0
  have hne : gapI p ∈ gapPre p p.shifts.length := by
    rcases minL_mem (gapPre p p.shifts.length) 1099511627776 with h | h
    · have h1 := gap_entry (p := p) (shAt_mem hp.sh0 0) (show 0 < p.ros.length by omega)
      have h2 := (minL_le (gapPre p p.shifts.length) 1099511627776).2 _ h1
      have h3 := gap_bound hp _ h1
      omega
    · exact h
  exact gap_bound hp _ hne
theorem cut_call {p : Prog} (hE : progE p = 0) (j : Int) (hj : -5000 ≤ j ∧ j ≤ 5000) (W : World) (V : Value) (h : IsProg W V p) :
    Calls Try.prog 20 #[V, .int .i64 j] W fun e w' => ∃ A c, e = .returned (.tuple #[.slice A p.ros.length c, .int .i64 0]) ∧ Below W.heap.size W w' ∧ Ints w' (.slice A p.ros.length c) (cutL p j) :=
  (pf_pat_Cut V p j W h 0 (cutE_ok hE hj)).mono fun e w' ⟨v', h1, h2, h3⟩ => by
    have hI := own_ints h3
    rw [onOk_zero] at hI
    have hI2 := hI
    obtain ⟨A, c, rfl, _⟩ := hI
    rw [cutL_len] at h1 hI2
    exact ⟨A, c, h1, h2, hI2⟩
theorem looks4 {w : World} {A : Option Addr} {n c : Nat} {xs : List Int} (h : Ints w (.slice A n c) xs) {k : Nat} (hk : k < xs.length) :
    ∃ b off, A = some ⟨b, off, none⟩ ∧ w.cell? ⟨b, off + k, none⟩ = some (.int .i64 (xs.getD k 0)) := by
  obtain ⟨b, off, ha, _, hc⟩ := h.look hk
  exact ⟨b, off, ha, by rw [hc]; simp [hk]⟩
set_option maxRecDepth 100000 in
set_option maxHeartbeats 4000000 in
theorem walk_PatternGap (p : Prog) (v : Value) (j : Int) (sn : Nat) (w : World) (hv : IsProg w v p) (hj : -32768 ≤ j ∧ j ≤ 32767) (hsn : sn ≤ 255) :
    Calls Try.prog 7 #[v, .int .i16 j, .int .u8 (sn : Int)] w fun e w' => e = .returned (.bool true) ∧ Below w.heap.size w w' := by
  have hp0 := Lib.hid hv
  obtain ⟨A0, c0, A1, c1, A5, c5, rfl⟩ := hv.open
  clear hv
  obtain ⟨G, hG⟩ : ∃ G, greatB p = G := ⟨_, rfl⟩
  have hx := Box.start w (.cells #[.slice A0 p.ros.length c0, .slice A1 p.rub.length c1, .int .i64 p.start, .int .i64 p.throw, .int .i64 p.adv, .slice A5 p.shifts.length c5] 24)
  by_cases hbig : G = true ∨ 2000 < j ∨ j < -2000
  · have hcase : G = true ∨ (G = false ∧ 2000 < j) ∨ (G = false ∧ ¬ 2000 < j ∧ j < -2000) := by
      cases G
      · by_cases h : 2000 < j
        · exact .inr (.inl ⟨rfl, h⟩)
        · rcases hbig with h1 | h1 | h1
          · cases h1
          · exact absurd h1 h
          · exact .inr (.inr ⟨rfl, h, h1⟩)
      · exact .inl rfl
    clear hbig
    rcases hcase with rfl | ⟨rfl, h1⟩ | ⟨rfl, h1, h2⟩
    all_goals
      have hG' := Lib.hid hG
      clear hG
      go_enter Try.func7, Try.ntmps7
      go_wp2_with (first | (go_at_call 37; ((with_reducible refine (pf_alive _).mono ?_); rintro e w' ⟨rfl, hb⟩; have hx2 := hx.next hb; obtain ⟨p0, p1, p2, p3, p4, p5⟩ := hx2.prog; clear hb hx)) | (go_at_call 14; ((with_reducible refine (pf_r4_Great _ p _ (hp0.out.below hx2.below)).mono ?_); rintro e w' ⟨rfl, hb⟩; rw [hG'.out]; have hx3 := hx2.next hb; clear hb hx2 p0 p1 p2 p3 p4 p5)))
      go_ret
      exact ⟨rfl, hx3.below⟩
  · have hGf : G = false := by cases G <;> simp_all
    subst hGf
    have hj1 : ¬ 2000 < j := fun h => hbig (.inr (.inl h))
    have hj2 : ¬ j < -2000 := fun h => hbig (.inr (.inr h))
    clear hbig
    obtain ⟨E, hE⟩ : ∃ E, progE p = E := ⟨_, rfl⟩
    by_cases hE0 : E = 0
    · subst hE0
      have hp := benchFacts hE
      have h00 := hp.ros0
      have h01 := hp.ros1
      have hc0 := hp.sh0
      have hc1 := hp.sh1
      have hg : ∀ W V, IsProg W V p → Calls Try.prog 35 #[V] W fun e w' => e = .returned (.tuple #[.int .i64 (gapI p), .int .i64 0]) ∧ Below W.heap.size W w' := fun W V h => pf_pat_Gap_ok V p W h hE
      have hcut := fun (k : Int) (hk : -5000 ≤ k ∧ k ≤ 5000) W V h => cut_call (p := p) hE k hk W V h
      have hvb := fun (k : Int) (hk : -5001 ≤ k ∧ k ≤ 5001) m h => cut_val_bound hp k hk m h
      have hgb := gap_val_bound hp
      have hat1 := Nat.mod_lt sn (show p.ros.length > 0 by omega)
      obtain ⟨m, hm⟩ : ∃ m, sn % p.ros.length = m := ⟨_, rfl⟩
      rw [hm] at hat1
      have hmI : (sn : Int) % (p.ros.length : Int) = (m : Int) := by rw [← hm]; simp
      have hle := gap_least hp j m hat1
      obtain ⟨X, hX⟩ : ∃ X, (cutL p (j + 1)).getD m 0 = X := ⟨_, rfl⟩
      obtain ⟨Y, hY⟩ : ∃ Y, (cutL p j).getD m 0 = Y := ⟨_, rfl⟩
      have hXb := hvb (j + 1) (by omega) m hat1
      have hYb := hvb j (by omega) m hat1
      rw [hX] at hXb
      rw [hY] at hYb
      unfold stepI at hle
      rw [hX, hY] at hle
      obtain ⟨gp, hgp⟩ : ∃ g, gapI p = g := ⟨_, rfl⟩
      rw [hgp] at hle hgb
      simp only [hgp] at hg
      have hnz : (0 : Int) < (p.ros.length : Int) := by omega
      have hlz : ((p.ros.length : Int) == 0) = false := beq_eq_false_iff_ne.2 (by omega)
      have ht1 : (0 : Int) ≤ (sn : Int) := by omega
      have hfin := fndB_all hp
      have hstep : ∀ (k : Nat) (m : Nat), (cutL p ((k : Int) + 1)).getD m 0 - (cutL p (k : Int)).getD m 0 = stepI p (k : Int) m := fun k m => rfl
      have hG' := Lib.hid hG
      have hE' := Lib.hid hE
      have hg' := Lib.hid hg
      have hcut' := Lib.hid hcut
      have hvb' := Lib.hid hvb
      have hp' := Lib.hid hp
      have hm' := Lib.hid hm
      have hX' := Lib.hid hX
      have hY' := Lib.hid hY
      have hgp' := Lib.hid hgp
      have hfin' := Lib.hid hfin
      have hstep' := Lib.hid hstep
      clear hstep hfin hgp hY hX hm hp hvb hcut hg hE hG
      go_enter Try.func7, Try.ntmps7
      go_upto_region 12 with (first | (go_at_call 37; ((with_reducible refine (pf_alive _).mono ?_); rintro e w' ⟨rfl, hb⟩; have hx2 := hx.next hb; obtain ⟨p0, p1, p2, p3, p4, p5⟩ := hx2.prog; clear hb hx)) | (go_at_call 14; ((with_reducible refine (pf_r4_Great _ p _ (hp0.out.below hx2.below)).mono ?_); rintro e w' ⟨rfl, hb⟩; rw [hG'.out]; have hx3 := hx2.next hb; clear hb hx2 p0 p1 p2 p3 p4 p5; obtain ⟨p0, p1, p2, p3, p4, p5⟩ := hx3.prog)) | (go_at_call 35; ((with_reducible refine (hg'.out _ _ (hp0.out.below hx3.below)).mono ?_); rintro e w' ⟨rfl, hb⟩; have hx4 := hx3.next hb; clear hb hx3 p0 p1 p2 p3 p4 p5; obtain ⟨p0, p1, p2, p3, p4, p5⟩ := hx4.prog)) | (go_at_call 20; ((with_reducible refine (hcut'.out j (by omega) _ _ (hp0.out.below hx4.below)).mono ?_); rintro e w' ⟨aA, ac, rfl, hb, ha⟩; have hx5 := hx4.next hb; have ha' := Lib.hid ha; clear hb ha hx4 p0 p1 p2 p3 p4 p5; obtain ⟨p0, p1, p2, p3, p4, p5⟩ := hx5.prog)) | (go_at_call 20; ((with_reducible refine (hcut'.out (j + 1) (by omega) _ _ (hp0.out.below hx5.below)).mono ?_); rintro e w' ⟨bA, bc, rfl, hb, hbI⟩; have hx6 := hx5.next hb; have ha' := Lib.hid (ha'.out.below hb); have hb' := Lib.hid hbI; clear hb hbI hx5 p0 p1 p2 p3 p4 p5; obtain ⟨p0, p1, p2, p3, p4, p5⟩ := hx6.prog)))
      have hlen1 : (cutL p j).length = p.ros.length := cutL_length p j
      have hlen2 : (cutL p (j + 1)).length = p.ros.length := cutL_length p (j + 1)
      obtain ⟨b1, o1, rfl, k1⟩ := looks4 hb'.out (show m < (cutL p (j + 1)).length by omega)
      obtain ⟨b2, o2, rfl, k2⟩ := looks4 ha'.out (show m < (cutL p j).length by omega)
      rw [hX'.out] at k1
      rw [hY'.out] at k2
      have i1 : (0 : Int) ≤ (m : Int) := by omega
      have i2 : (m : Int) < (p.ros.length : Int) := by omega
      have i3 : IntKind.i64.wrap (X - Y) = X - Y := IntWalk.i64_in _ (by omega)
      have i4 : ¬ X - Y < gp := by omega
      have hlen1' := Lib.hid hlen1
      have hlen2' := Lib.hid hlen2
      clear hlen2 hlen1
      go_quiet (fail)
      have hy := hx6.drewN nq
      clear ha' hb' k1 k2 i1 i2 i3 i4 hx6 p0 p1 p2 p3 p4 p5
      rw [hmI]
      clear hmI
      generalize w'.drewN nq = W6 at hy ⊢
      obtain ⟨p0, p1, p2, p3, p4, p5⟩ := hy.prog
      go_wp2
      go_loopw [104, 15] (fun i f wr => ∃ k : Nat, k ≤ p.shifts.length ∧ i = .int .i64 k ∧ f = .bool (fndB p k) ∧ Hid (Box w w.heap.size (.cells #[.slice A0 p.ros.length c0, .slice A1 p.rub.length c1, .int .i64 p.start, .int .i64 p.throw, .int .i64 p.adv, .slice A5 p.shifts.length c5] 24) wr)) (fun i _ _ => p.shifts.length - (intOf i).toNat)
      case atStart => exact ⟨0, Nat.zero_le _, rfl, rfl, hy⟩
      case round =>
        obtain ⟨k, hk, rfl, rfl, hxr⟩ := hrel
        clear hy p0 p1 p2 p3 p4 p5
        by_cases hlt : k < p.shifts.length
        · have hx7 := hxr.out
          clear hxr
          obtain ⟨p0, p1, p2, p3, p4, p5⟩ := hx7.prog
          have hk1 : -5000 ≤ (k : Int) ∧ (k : Int) ≤ 5000 := by omega
          have hk2 : -5000 ≤ (k : Int) + 1 ∧ (k : Int) + 1 ≤ 5000 := by omega
          obtain ⟨f0, hf0⟩ : ∃ f, fndB p k = f := ⟨_, rfl⟩
          rw [hf0]
          have hf0' := Lib.hid hf0
          clear hf0
          go_upto_region 22 with (first | (go_at_call 20; ((with_reducible refine (hcut'.out k hk1 _ _ (hp0.out.below hx7.below)).mono ?_); rintro e w' ⟨aA, ac, rfl, hb, ha⟩; have hx8 := hx7.next hb; have ha' := Lib.hid ha; clear hb ha hx7 p0 p1 p2 p3 p4 p5; obtain ⟨p0, p1, p2, p3, p4, p5⟩ := hx8.prog)) | (go_at_call 20; ((with_reducible refine (hcut'.out ((k : Int) + 1) hk2 _ _ (hp0.out.below hx8.below)).mono ?_); rintro e w' ⟨bA, bc, rfl, hb, hbI⟩; have hx9 := hx8.next hb; have ha' := Lib.hid (ha'.out.below hb); have hb' := Lib.hid hbI; clear hb hbI hx8 p0 p1 p2 p3 p4 p5)))
          have hl1 : (cutL p (k : Int)).length = p.ros.length := cutL_length p _
          have hl2 : (cutL p ((k : Int) + 1)).length = p.ros.length := cutL_length p _
          generalize w' = W9 at ha' hb' hx9 ⊢
          have hl1' := Lib.hid hl1
          have hl2' := Lib.hid hl2
          clear hl2 hl1
          go_wp2
          go_loopw [135, 15] (fun i f wi => ∃ a : Nat, a ≤ p.ros.length ∧ i = .int .i64 a ∧ f = .bool (f0 || rowB p k a) ∧ Hid (∃ n, wi = W9.drewN n)) (fun i _ _ => p.ros.length - (intOf i).toNat)
          case atStart => exact ⟨0, Nat.zero_le _, rfl, by simp [rowB], ⟨0, rfl⟩⟩
          case round =>
            obtain ⟨a, ha, rfl, rfl, hdr⟩ := hrel
            obtain ⟨nd, hnd⟩ := hdr.out
            subst hnd
            clear hdr
            by_cases hal : a < p.ros.length
            · obtain ⟨b1, o1, rfl, k1⟩ := looks4 hb'.out (show a < (cutL p ((k : Int) + 1)).length by have := hl2'.out; omega)
              obtain ⟨b2, o2, rfl, k2⟩ := looks4 ha'.out (show a < (cutL p (k : Int)).length by have := hl1'.out; omega)
              have q1 := hvb'.out ((k : Int) + 1) (by omega) a hal
              have q2 := hvb'.out (k : Int) (by omega) a hal
              have hst := hstep'.out k a
              have hsu := rowB_succ p k a
              rw [hgp'.out, ← hst] at hsu
              generalize (cutL p ((k : Int) + 1)).getD a 0 = x at k1 q1 hsu
              generalize (cutL p (k : Int)).getD a 0 = y at k2 q2 hsu
              have i1 : (0 : Int) ≤ (a : Int) := by omega
              have i2 : (a : Int) < (p.ros.length : Int) := by omega
              have i3 : IntKind.i64.wrap (x - y) = x - y := IntWalk.i64_in _ (by omega)
              clear hst
              obtain ⟨g0, hg0⟩ : ∃ g, (f0 || rowB p k a) = g := ⟨_, rfl⟩
              rw [hg0]
              have hnx : (f0 || rowB p k (a + 1)) = (g0 || (x - y == gp)) := by rw [hsu, ← hg0, Bool.or_assoc]
              have hsu' := Lib.hid hsu
              have hg0' := Lib.hid hg0
              have hnx' := Lib.hid hnx
              clear hnx hg0 hsu
              obtain ⟨z0, hz0⟩ : ∃ z, (x - y == gp) = z := ⟨_, rfl⟩
              rw [hz0] at hnx'
              have hzz := hz0
              cases g0 with
              | true =>
                go_wp2
                go_quiet (fail)
                go_wp2
                go_roundw
                case rel => exact ⟨a + 1, by omega, by go_num, by rw [hnx'.out]; rfl, ⟨_, rfl⟩⟩
                case measure => simp [intOf]; omega
              | false =>
                cases z0
                all_goals
                  go_wp2
                  go_quiet (fail)
                  go_wp2
                  go_roundw
                  case rel => exact ⟨a + 1, by omega, by go_num, by rw [hnx'.out]; rfl, ⟨_, rfl⟩⟩
                  case measure => simp [intOf]; omega
            · obtain rfl : a = p.ros.length := by omega
              have hfs := fndB_succ p k
              rw [hf0'.out] at hfs
              have hfs' := Lib.hid hfs
              clear hfs
              go_wp2
              go_roundw
              case rel => exact ⟨k + 1, by omega, by go_num, by rw [hfs'.out], hx9.drewN nd⟩
              case measure => simp [intOf]; omega
        · obtain rfl : k = p.shifts.length := by omega
          rw [hfin'.out]
          go_wp2
          go_ret
          exact ⟨rfl, hxr.out.below⟩
    · have hEz : (E != 0) = true := by simpa using hE0
      have hg : ∀ W V, IsProg W V p → Calls Try.prog 35 #[V] W fun e w' => e = .returned (.tuple #[.int .i64 0, .int .i64 E]) ∧ Below W.heap.size W w' := fun W V h => by have h2 := pf_pat_Gap V p W h E hE; rwa [onOkI_ne hE0] at h2
      have hG' := Lib.hid hG
      have hE' := Lib.hid hE
      have hE0' := Lib.hid hE0
      have hg' := Lib.hid hg
      clear hg hE0 hE hG
      go_enter Try.func7, Try.ntmps7
      go_wp2_with (first | (go_at_call 37; ((with_reducible refine (pf_alive _).mono ?_); rintro e w' ⟨rfl, hb⟩; have hx2 := hx.next hb; obtain ⟨p0, p1, p2, p3, p4, p5⟩ := hx2.prog; clear hb hx)) | (go_at_call 14; ((with_reducible refine (pf_r4_Great _ p _ (hp0.out.below hx2.below)).mono ?_); rintro e w' ⟨rfl, hb⟩; rw [hG'.out]; have hx3 := hx2.next hb; clear hb hx2 p0 p1 p2 p3 p4 p5; obtain ⟨p0, p1, p2, p3, p4, p5⟩ := hx3.prog)) | (go_at_call 35; ((with_reducible refine (hg'.out _ _ (hp0.out.below hx3.below)).mono ?_); rintro e w' ⟨rfl, hb⟩; have hx4 := hx3.next hb; clear hb hx3 p0 p1 p2 p3 p4 p5; obtain ⟨p0, p1, p2, p3, p4, p5⟩ := hx4.prog)) | (go_at_call 22; ((with_reducible refine (pf_pat_Check _ p _ (hp0.out.below hx4.below) E hE'.out).mono ?_); rintro e w' ⟨rfl, hb⟩; have hx5 := hx4.next hb; clear hb hx4 p0 p1 p2 p3 p4 p5)))
      go_ret
      exact ⟨rfl, hx5.below⟩
theorem law_PatternGap (a0 : Prog) (x0 : Value) (a1 a2 : Int) (w : World) (w0 : IsProg w x0 a0 ∧ a0.fits) (w1 : (Lit.int .i16 a1).wf = true) (w2 : (Lit.int .u8 a2).wf = true) :
    Calls Try.prog 7 #[x0, .int .i16 a1, .int .u8 a2] w fun e w' => e = .returned (.bool true) ∧ Below w.heap.size w w' := by
  have h1' : IntKind.i16.min ≤ a1 ∧ a1 ≤ IntKind.i16.max := by simpa [Lit.wf] using w1
  have h2' : IntKind.u8.min ≤ a2 ∧ a2 ≤ IntKind.u8.max := by simpa [Lit.wf] using w2
  have h1 : -32768 ≤ a1 ∧ a1 ≤ 32767 := h1'
  have h2 : 0 ≤ a2 ∧ a2 ≤ 255 := h2'
  obtain ⟨sn, rfl⟩ : ∃ sn : Nat, a2 = sn := ⟨a2.toNat, by omega⟩
  exact walk_PatternGap a0 x0 a1 sn w w0.1 h1 (by omega)
end Go.Proofs.Ytnboppombhibbaa
