/- The laws' own helpers: short, shape. -/
import Derived.Test.YtnboppombhibbaaP4Cut
import Derived.Test.YtnboppombhibbaaPhaseLaw
import Derived.Test.YtnboppombhibbaaL4Cuts
import Derived.StillTailTactics
namespace Go.Proofs.Ytnboppombhibbaa
open Go.RowKit Go.Lib
set_option linter.unusedVariables false
set_option linter.unusedSimpArgs false
attribute [local go_sem] Oper.semAt_some
attribute [local go_sem ↓] Go.wp_at_zero Go.wp_at_succ
theorem cutE_zero {p : Prog} {j : Int} (h : cutE p j = 0) : progE p = 0 ∧ -5000 ≤ j ∧ j ≤ 5000 := by
  unfold cutE at h
  by_cases h0 : progE p = 0
  · rw [if_neg (by simpa using h0)] at h
    by_cases hw : within j (-5000) 5000 = true
    · exact ⟨h0, within_iff.1 hw⟩
    · rw [if_neg hw] at h; exact absurd h (by decide)
  · rw [if_pos h0] at h; exact absurd h h0
theorem cut_less (p : Prog) (j : Int) : (cutL p j).map (· - (p.start + j * p.adv)) = shapeL p j := by
  unfold cutL
  rw [List.map_map]
  refine (List.map_congr_left fun x _ => ?_).trans (List.map_id _)
  show x + (p.start + j * p.adv) - (p.start + j * p.adv) = x
  omega
theorem cut_less_bound {p : Prog} (hp : BenchFacts p) (j : Int) (k : Nat) (hk : k < (cutL p j).length) : 0 ≤ (cutL p j)[k] - (p.start + j * p.adv) ∧ (cutL p j)[k] - (p.start + j * p.adv) ≤ 160000 := by
  have hl : k < (shapeL p j).length := by rw [shapeL_length, ← cutL_len p j]; exact hk
  have h1 := shape_bound hp j k hl
  have h2 : (shapeL p j)[k]'hl = (cutL p j)[k] - (p.start + j * p.adv) := by
    have h3 := cut_less p j
    rw [List.getElem_of_eq h3.symm hl, List.getElem_map]
  rw [h2] at h1
  exact h1
set_option maxRecDepth 100000 in
set_option maxHeartbeats 4000000 in
theorem pf_shape (v : Value) (p : Prog) (j : Int) (w : World) (hv : IsProg w v p) :
    Calls Try.prog 39 #[v, .int .i64 j] w fun e w' => ∃ v', e = .returned v' ∧ Below w.heap.size w w' ∧ w'.ownsRow w.heap.size 3 1 v' (onOk (cutE p j) (shapeL p j)).length ((onOk (cutE p j) (shapeL p j)).map vint) := by
  have hv0 := Lib.hid hv
  obtain ⟨v0, v1, v5, rfl, h0, h1, h5⟩ := hv
  clear h0 h1 h5
  obtain ⟨E, hE⟩ : ∃ E, cutE p j = E := ⟨_, rfl⟩
  rw [hE]
  by_cases hE0 : E = 0
  · subst hE0
    obtain ⟨hpE, hj⟩ := cutE_zero hE
    have hp := benchFacts hpE
    have hr0 := hp.ros0
    have hr1 := hp.ros1
    have hadv := hp.adv
    have hst := hp.start
    have hma := mul_adv j p.adv (by omega) hadv
    have hlen := cutL_len p j
    have hcb := cut_less_bound hp j
    have hcl := cut_less p j
    rw [onOk_zero, shapeL_length]
    have hE' := Lib.hid hE
    have hpE' := Lib.hid hpE
    have hp' := Lib.hid hp
    have hcb' := Lib.hid hcb
    have hcl' := Lib.hid hcl
    have hlen' := Lib.hid hlen
    clear hlen hcl hcb hp hpE hE
    go_enter Try.func39, Try.ntmps39
    go_upto_region 4 with (go_at_call 20; ((with_reducible refine (pf_pat_Cut _ p j _ (hv0.out.below (alc1 _ _)) 0 hE'.out).mono ?_); rintro e w' ⟨v', rfl, hb, ho⟩; have hbox := (Box.start w _).next hb; have hbz := hb.size; have hbox' := Lib.hid hbox; clear hb hbox))
    rw [onOk_zero, hlen'.out] at ho
    have ho := own_base ho (show w.heap.size + 1 ≤ _ by simp)
    obtain ⟨g, c, rfl, hg, hgl, hnc, hcm⟩ := own_form ho (by omega)
    unfold maxLen at hcm
    have hown0 := Lib.hid ho
    have hgz : w.heap.size < w'.heap.size := hbox'.out.lt
    have hng : w.heap.size ≠ g := by omega
    clear ho hbz
    generalize hC : cutL p j = C at hown0 hlen' hcb' hcl'
    generalize hd : p.start + j * p.adv = d at hcb' hcl'
    have hC' := Lib.hid hC
    have hd' := Lib.hid hd
    clear hd hC
    go_wp2
    go_loopw [18, 7] (fun i _ wr => ∃ k : Nat, k ≤ p.ros.length ∧ i = .int .i64 k ∧ Hid (Below (w.heap.size + 1) w' wr) ∧ Hid (wr.ownsRow (w.heap.size + 1) 3 1 (.slice (some ⟨g, 0, none⟩) p.ros.length c) p.ros.length ((part (· - d) C k).map vint))) (fun i _ _ => p.ros.length - (intOf i).toNat)
    case atStart => exact ⟨0, Nat.zero_le _, rfl, Lib.hid (Below.refl _ _), by rw [part_zero]; exact hown0⟩
    case round =>
      obtain ⟨k, hk, rfl, hbw, hown⟩ := hrel
      have hbx := hbox'.out.nextB hbw.out (by omega) (by omega)
      by_cases hlt : k < p.ros.length
      · obtain ⟨p0, p1, p2, p3, p4, p5⟩ := hbx.prog
        have hkl : k < C.length := by have := hlen'.out; omega
        obtain ⟨x, hx⟩ : ∃ x, C[k] = x := ⟨_, rfl⟩
        have hxk : (part (· - d) C k)[k]? = some x := by rw [part_get _ _ _ hkl, hx]
        have hset := part_set (· - d) C k hkl
        have hpl : (part (· - d) C k).length = p.ros.length := by rw [part_length]; exact hlen'.out
        have hcz := own_cell hown.out hpl hxk
        have hfz := hown.out.frozenAt k
        have hxd : 0 ≤ x - d ∧ x - d ≤ 160000 := by
          have h1 := hcb'.out k hkl
          rw [hx] at h1
          exact h1
        rw [hx] at hset
        have i1 : (0 : Int) ≤ (k : Int) := by omega
        have i2 : (k : Int) < (p.ros.length : Int) := by omega
        have hdv : p.start + j * p.adv = d := hd'.out
        have j1 : IntKind.i64.wrap (j * p.adv) = j * p.adv := IntWalk.i64_in _ (by omega)
        have j2 : IntKind.i64.wrap (p.start + j * p.adv) = d := by rw [hdv]; exact IntWalk.i64_in _ (by omega)
        have j3 : IntKind.i64.wrap (x - d) = x - d := IntWalk.i64_in _ (by omega)
        have hset' := Lib.hid hset
        have hpl' := Lib.hid hpl
        have hx' := Lib.hid hx
        have hxk' := Lib.hid hxk
        have hdv' := Lib.hid hdv
        have hbx' := Lib.hid hbx
        clear hbx hdv hxk hx hpl hset
        go_wp2
        go_still_tail 13, (by kernel_rfl)
        change wpList _ _ _ _ _ wr.drew
        have hbd : Hid (Below (w.heap.size + 1) w' wr.drew) := Lib.hid hbw.out.drew
        have hod : Hid (wr.drew.ownsRow (w.heap.size + 1) 3 1 (.slice (some ⟨g, 0, none⟩) p.ros.length c) p.ros.length ((part (· - d) C k).map vint)) := hown
        clear hbw hown hbx' hcz hfz p0 p1 p2 p3 p4 p5
        generalize wr.drew = w4 at hbd hod ⊢
        have hcz := own_cell hod.out hpl'.out hxk'.out
        have hfz := hod.out.frozenAt k
        go_wp2
        go_roundw
        case rel => exact ⟨k + 1, by omega, by go_num, Lib.hid (hbd.out.setCell (p := ⟨g, k, none⟩) hg _), Lib.hid (by have h := own_put hod.out k (x - d); rw [hset'.out] at h; exact h)⟩
        case measure => simp [intOf]; omega
      · obtain rfl : k = p.ros.length := by omega
        have hfin := hown.out
        rw [← hlen'.out, part_all, hcl'.out, hlen'.out] at hfin
        have hfin' := Lib.hid hfin
        clear hfin
        go_wp2
        go_ret
        exact ⟨_, rfl, hbx.below, own_base hfin'.out (by omega)⟩
  · have hz : (E != 0) = true := by simpa using hE0
    rw [onOk_ne hE0]
    have hE' := Lib.hid hE
    have hE0' := Lib.hid hE0
    clear hE0 hE
    go_enter Try.func39, Try.ntmps39
    go_upto_region 99 with (go_at_call 20; ((with_reducible refine (pf_pat_Cut _ p j _ (hv0.out.below (alc1 _ _)) E hE'.out).mono ?_); rintro e w' ⟨v', rfl, hb, ho⟩; have hbox := (Box.start w _).next hb; clear hb ho))
    go_ret
    exact ⟨_, rfl, hbox.below, World.ownsRow_nil _ _ _ _⟩
def shortB (p : Prog) : Bool := decide ((p.ros.length : Int) ≤ 12) && decide ((p.shifts.length : Int) ≤ 4)
theorem shortB_iff {p : Prog} : shortB p = true ↔ p.ros.length ≤ 12 ∧ p.shifts.length ≤ 4 := by
  unfold shortB
  simp only [Bool.and_eq_true, decide_eq_true_eq]
  omega
set_option maxRecDepth 100000 in
theorem pf_short (v : Value) (p : Prog) (w : World) (hv : IsProg w v p) :
    Calls Try.prog 38 #[v] w fun e w' => e = .returned (.bool (shortB p)) ∧ Below w.heap.size w w' := by
  obtain ⟨A0, c0, A1, c1, A5, c5, rfl⟩ := hv.open
  clear hv
  unfold shortB
  by_cases h1 : (p.ros.length : Int) ≤ 12
  · rw [decide_eq_true h1, Bool.true_and]
    go_enter Try.func38, Try.ntmps38
    go_wp2
    go_ret
    exact ⟨rfl, alc1 _ _⟩
  · have h1i : (12 : Int) < (p.ros.length : Int) := by omega
    rw [decide_eq_false h1]
    clear h1
    go_enter Try.func38, Try.ntmps38
    go_wp2
    go_ret
    exact ⟨rfl, alc1 _ _⟩
end Go.Proofs.Ytnboppombhibbaa
