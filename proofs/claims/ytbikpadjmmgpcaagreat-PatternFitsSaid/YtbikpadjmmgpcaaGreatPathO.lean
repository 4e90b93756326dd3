/- Greatest common divisors of numbers that may be below 0: motion.gcd, barleycornref02.Gcd, pattern.gcd. motion.step, motion.Order, pattern.Around. -/
import Derived.Test.YtbikpadjmmgpcaaGreatBase
import Derived.Test.YtbikpadjmmgpcaaGreatStd
import Derived.Test.YtbikpadjmmgpcaaGreatQReg
import Derived.Test.YtbikpadjmmgpcaaGreatPathC
import Derived.Lib.Hide
import Derived.Deep.DrawnRows
namespace Go.Proofs.YtbikpadjmmgpcaaGreat
open Go.RowKit Go.Lib
set_option linter.unusedVariables false
set_option linter.unusedSimpArgs false
attribute [local go_sem] Oper.semAt_some
attribute [local go_sem ↓] Go.wp_at_zero Go.wp_at_succ
theorem gcd_tmod (x y : Int) : Nat.gcd y.natAbs (x.tmod y).natAbs = Nat.gcd x.natAbs y.natAbs := by
  rw [Int.natAbs_tmod, Nat.gcd_comm x.natAbs y.natAbs, Nat.gcd_rec y.natAbs x.natAbs, Nat.gcd_comm]
theorem pf_m_gcd (a b : Int) (w : World) (ha : -1000000 ≤ a ∧ a ≤ 1000000) (hb : -1000000 ≤ b ∧ b ≤ 1000000) :
    Calls Tryz.prog 56 #[.int .i64 a, .int .i64 b] w fun e w' => e = .returned (.int .i64 (Nat.gcd a.natAbs b.natAbs : Nat)) ∧ ∃ n, w' = w.drewN n := by
  obtain ⟨G, hG⟩ : ∃ G, Nat.gcd a.natAbs b.natAbs = G := ⟨_, rfl⟩
  rw [hG]
  have hG' := Lib.hid hG
  clear hG
  go_enter Tryz.func56, Tryz.ntmps56
  go_wp2
  go_loopw [0, 1] (fun i j wr => ∃ x y : Int, (-1000000 ≤ x ∧ x ≤ 1000000) ∧ (-1000000 ≤ y ∧ y ≤ 1000000) ∧ i = .int .i64 x ∧ j = .int .i64 y ∧ Hid (Nat.gcd x.natAbs y.natAbs = G) ∧ Hid (∃ n, wr = w.drewN n)) (fun _ j _ => (intOf j).natAbs)
  case atStart => exact ⟨a, b, ha, hb, rfl, rfl, hG', Lib.hid ⟨0, rfl⟩⟩
  case round =>
    obtain ⟨x, y, hx, hy, rfl, rfl, hg, hdr⟩ := hrel
    obtain ⟨nd, hnd⟩ := hdr.out
    subst hnd
    by_cases h0 : y = 0
    · subst h0
      have hgx : x.natAbs = G := by have := hg.out; simpa using this
      have hx1 := hx.1
      have hx2 := hx.2
      by_cases hs : 0 ≤ x
      · obtain ⟨X, rfl⟩ : ∃ X : Nat, x = (X : Int) := ⟨x.toNat, by omega⟩
        obtain rfl : X = G := by simpa using hgx
        have h1 : -(X : Int) ≤ (X : Int) := by omega
        have h2 : ¬ (X : Int) < -(X : Int) := by omega
        have hgx' := Lib.hid hgx
        clear hgx
        go_wp2
        go_ret
        exact ⟨rfl, _, rfl⟩
      · obtain ⟨X, rfl⟩ : ∃ X : Nat, x = -(X : Int) := ⟨x.natAbs, by omega⟩
        obtain rfl : X = G := by simpa using hgx
        have h1 : -(X : Int) < (X : Int) := by omega
        have h2 : ¬ (X : Int) ≤ -(X : Int) := by omega
        have h3 : - -(X : Int) = (X : Int) := by omega
        have hgx' := Lib.hid hgx
        clear hgx
        go_wp2
        go_ret
        exact ⟨rfl, _, rfl⟩
    · have hz : (y != 0) = true := by simpa using h0
      have hyb : (y == 0) = false := by simpa using h0
      have hlt : (x.tmod y).natAbs < y.natAbs := by rw [Int.natAbs_tmod]; exact Nat.mod_lt _ (by omega)
      have hgn : Nat.gcd y.natAbs (x.tmod y).natAbs = G := by rw [gcd_tmod]; exact hg.out
      have hy1 := hy.1
      have hy2 := hy.2
      have hx1 := hx.1
      have hx2 := hx.2
      generalize hM : x.tmod y = m at hlt hgn
      have hm1 : -1000000 ≤ m ∧ m ≤ 1000000 := by omega
      have hmw : IntKind.i64.wrap m = m := IntWalk.i64_in _ (by omega)
      have hgn' := Lib.hid hgn
      have hlt' := Lib.hid hlt
      have hm1' := Lib.hid hm1
      clear hm1 hlt hgn
      go_wp2
      go_quiet (fail)
      go_wp2
      go_roundw
      case rel => exact ⟨y, m, hy, hm1'.out, rfl, rfl, hgn', Lib.hid ⟨_, World.drewN_drewN _ _ _⟩⟩
      case measure => simp [intOf]; exact hlt'.out
theorem pf_r2_gcdI (a b : Int) (w : World) (ha : -1000000 ≤ a ∧ a ≤ 1000000) (hb : -1000000 ≤ b ∧ b ≤ 1000000) :
    Calls Tryz.prog 33 #[.int .i64 a, .int .i64 b] w fun e w' => e = .returned (.int .i64 (Nat.gcd a.natAbs b.natAbs : Nat)) ∧ w = w' := by
  obtain ⟨G, hG⟩ : ∃ G, Nat.gcd a.natAbs b.natAbs = G := ⟨_, rfl⟩
  rw [hG]
  have ha1 := ha.1
  have ha2 := ha.2
  have hb1 := hb.1
  have hb2 := hb.2
  have main : ∀ (i j : Int) (x y : Nat), i.natAbs = x → True := fun _ _ _ _ _ => trivial
  clear main
  rcases (show a < 0 ∨ ¬ a < 0 by omega) with sa | sa <;> rcases (show b < 0 ∨ ¬ b < 0 by omega) with sb | sb
  all_goals
    have hG' := Lib.hid hG
    clear hG
    go_enter Tryz.func33, Tryz.ntmps33
    go_wp2
    go_loop [0, 1, 5] (fun i j _ => ∃ x y : Nat, x ≤ 1000000 ∧ y ≤ 1000000 ∧ i = .int .i64 x ∧ j = .int .i64 y ∧ Hid (Nat.gcd x y = G)) (fun _ j _ => (intOf j).toNat)
    case atStart => exact ⟨a.natAbs, b.natAbs, by omega, by omega, by congr 1; omega, by congr 1; omega, hG'⟩
    case round =>
      obtain ⟨x, y, hx, hy, rfl, rfl, hg⟩ := hrel
      by_cases h0 : y = 0
      · subst h0
        have hgx : x = G := by have := hg.out; simpa using this
        subst hgx
        go_wp2
        go_ret
        exact ⟨rfl, rfl⟩
      · have hz : (0 : Int) < (y : Int) := by omega
        have hlt := Nat.mod_lt x (show y > 0 by omega)
        have hmod : (x : Int) % (y : Int) = ((x % y : Nat) : Int) := by simp
        have hgn : Nat.gcd y (x % y) = G := by rw [← hg.out, Nat.gcd_comm x y, Nat.gcd_rec y x, Nat.gcd_comm]
        have hgn' := Lib.hid hgn
        clear hgn
        generalize hM : x % y = m at hlt hmod hgn'
        have hM' := Lib.hid hM
        clear hM
        go_wp2
        go_round
        case rel => exact ⟨y, m, hy, by omega, rfl, by first | rfl | (rw [hmod]), hgn'⟩
        case measure => simp [intOf]; omega
theorem pf_pgcd (a b : Nat) (w : World) (ha : a ≤ 1000000) (hb : b ≤ 1000000) :
    Calls Tryz.prog 31 #[.int .i64 a, .int .i64 b] w fun e w' => e = .returned (.int .i64 (Nat.gcd a b)) ∧ ∃ n, w' = w.drewN n := by
  obtain ⟨G, hG⟩ : ∃ G, Nat.gcd a b = G := ⟨_, rfl⟩
  rw [hG]
  have hG' := Lib.hid hG
  clear hG
  go_enter Tryz.func31, Tryz.ntmps31
  go_wp2
  go_loopw [0, 1] (fun i j wr => ∃ x y : Nat, x ≤ 1000000 ∧ y ≤ 1000000 ∧ i = .int .i64 x ∧ j = .int .i64 y ∧ Hid (Nat.gcd x y = G) ∧ Hid (∃ n, wr = w.drewN n)) (fun _ j _ => (intOf j).toNat)
  case atStart => exact ⟨a, b, ha, hb, rfl, rfl, hG', Lib.hid ⟨0, rfl⟩⟩
  case round =>
    obtain ⟨x, y, hx, hy, rfl, rfl, hg, hdr⟩ := hrel
    obtain ⟨nd, hnd⟩ := hdr.out
    subst hnd
    by_cases h0 : y = 0
    · subst h0
      have hgx : x = G := by have := hg.out; simpa using this
      subst hgx
      go_wp2
      go_ret
      exact ⟨rfl, _, rfl⟩
    · have hz : ((y : Int) != 0) = true := by simp; omega
      have hlt := Nat.mod_lt x (show y > 0 by omega)
      have hmod : (x : Int) % (y : Int) = ((x % y : Nat) : Int) := by simp
      have hmod2 : (x : Int).tmod (y : Int) = ((x % y : Nat) : Int) := by rw [Int.tmod_eq_emod_of_nonneg (by omega)]; exact hmod
      have hgn : Nat.gcd y (x % y) = G := by rw [← hg.out, Nat.gcd_comm x y, Nat.gcd_rec y x, Nat.gcd_comm]
      have hgn' := Lib.hid hgn
      clear hgn
      generalize hM : x % y = m at hlt hmod hmod2 hgn'
      have hM' := Lib.hid hM
      clear hM
      go_wp2
      go_quiet (fail)
      go_wp2
      go_roundw
      case rel => exact ⟨y, m, hy, by omega, rfl, by first | rfl | (rw [hmod]) | (rw [hmod2]), hgn', Lib.hid ⟨_, World.drewN_drewN _ _ _⟩⟩
      case measure => simp [intOf]; omega
end Go.Proofs.YtbikpadjmmgpcaaGreat
namespace Go.Proofs.YtbikpadjmmgpcaaGreat
open Go.RowKit Go.Shelf
set_option linter.unusedVariables false
set_option linter.unusedSimpArgs false
attribute [local go_sem] Oper.semAt_some
attribute [local go_sem ↓] Go.wp_at_zero Go.wp_at_succ
theorem pathE_cases (l : List ArmA) : (pathE l = 0 ∧ l.length ≤ 24 ∧ pathOk l = true) ∨ (pathE l ≠ 0 ∧ (24 < l.length ∨ pathOk l = false)) := by
  unfold pathE
  by_cases h : 24 < l.length
  · rw [if_pos h]; exact .inr ⟨by decide, .inl h⟩
  · rw [if_neg h]
    cases hp : pathOk l with
    | true => exact .inl ⟨by simp, by omega, rfl⟩
    | false => exact .inr ⟨by simp, .inr rfl⟩
theorem pathOk_k {l : List ArmA} (h : pathOk l = true) {j : Nat} (hj : j < l.length) : -64 ≤ (l.getD j default).k ∧ (l.getD j default).k ≤ 64 := by
  obtain ⟨g, -, -, a1, a2, -⟩ := armOk_parts ((allB_iff _ _).1 h j hj)
  exact ⟨a1, a2⟩
/-- Between two rounds of step. -/
structure StI (w W0 : World) (t3 : TypeId) (l : List ArmA) (pre : List (Fin l.length)) (W : World) : Prop where
  kept : Kept w.heap.size [w.heap.size, w.heap.size + 2] W0 W
  size : W0.heap.size ≤ W.heap.size
  gcd : ∃ z : Nat, W.heap[w.heap.size + 1]? = some (.cells #[.int .i64 (z : Int)] t3) ∧ z ≤ 128 ∧ (pre <+: List.finRange l.length → z = paceN l pre.length)
theorem StI.from (w W0 : World) (t3 : TypeId) (l : List ArmA) (hs : W0.heap.size = w.heap.size + 3) : OwnFrom W0.heap.size (StI w W0 t3 l) := by
  rintro s X Y row ⟨h1, h2, z, h4, h5, h6⟩ hg hrow
  refine ⟨h1.trans ⟨(Below.refl _ _).grown hg (by omega) fun k e => by have := (hrow k e).1; omega, fun B hB => hg.block B (by simp at hB; omega) (fun e => by have := (hrow _ e.symm).1; simp at hB; omega)⟩, Nat.le_trans h2 hg.size, z, ?_, h5, h6⟩
  exact (hg.block _ (by omega) (fun e => by have := (hrow _ e.symm).1; omega)).trans h4
set_option maxRecDepth 100000 in
set_option maxHeartbeats 4000000 in
theorem pf_m_step (l : List ArmA) (v : Value) (w : World) (hv : ArmsL w v l) (hok : pathOk l = true) (hlen : l.length ≤ 24) :
    Calls Tryz.prog 55 #[v] w fun e w' => e = .returned (.int .i64 (paceN l l.length : Nat)) ∧ Le w w' := by
  obtain ⟨tv, hv⟩ := hv.vals
  have hv0 := hv
  obtain ⟨A, c, rfl, hlc, hcm, hAN, hki, htv, hr⟩ := hv
  unfold maxLen at hcm
  have hv0' := Lib.hid hv0
  have hki' := Lib.hid hki
  have htv' := Lib.hid htv
  have hr' := Lib.hid hr
  have hAN' := Lib.hid hAN
  have hok' := Lib.hid hok
  clear hok hAN hr htv hki hv0
  refine (callsIn_wide (n := 5)).1 ?_
  refine callsIn_of_wp_marks Tryz.func55 rfl trivial ?_ rfl
  simp only [Tryz.ntmps55, List.size_toArray, List.length_cons, List.length_nil, Nat.reduceAdd, Nat.reduceSub, Array.replicate_succ, Array.replicate_zero, List.push_toArray, List.append_toArray, List.nil_append, List.cons_append]
  gi_wp2_with (first | (refine ⟨trivial, ?_⟩; gi_at_call 79; refine (callsIn_wide.2 (pf_arms _ _ _ _)).mono ?_; rintro e w' ⟨rfl, rfl⟩))
  obtain ⟨W0, hW0, hsz, hBW, h0, h1, h2⟩ := new3_facts w (.cells #[.slice A l.length c] 23) (.cells #[.int .i64 0] 3) (.cells #[.slice A l.length c] 23)
  rw [hW0]
  clear hW0
  have hyield := arms1_yields l _ tv w W0 (w.heap.size + 1 + 1) w.heap.size hv0'.out (by omega) (by omega) (by omega) (Nat.le_refl _) hBW (cell00 h2)
  refine wpIn_rangeFunc_ownG rfl (by omega) (gf := 93) (lb := #[.pointer (some ⟨w.heap.size + 1 + 1, 0, none⟩)]) rfl trivial (enters_of Tryz.func93 (by kernel_rfl) rfl)
    hyield Kept.trans (Kept.put (by omega) (by simp; omega)) (Below.refl _ _) (fun _ => rfl)
    (StI w W0 3 l) (fun _ _ _ => False) (StI.from w W0 _ l hsz) (fun _ _ _ _ _ hs _ _ => hs) ⟨Kept.refl _ _ _, Nat.le_refl _, 0, h1, by omega, fun _ => rfl⟩ ?_ ?_ ?_ ?_ ?_
  rotate_left
  · intro la x W K hK
    dsimp only [armAtV]
    gi_wp2
    exact hK
  · rintro la pre x W ⟨k1, k2, z, k4, k5, k6⟩ hlen2
    have hx := x.2
    obtain ⟨b, off, rfl, hb, hcc⟩ := hr'.out (by omega)
    obtain ⟨-, -, -, -, -, -, -, -, -, -, -, -, -, -, -, -, -, c9, -⟩ := (hcc 0 (by omega)).same (W := W) fun i => (k1.1.cell (p := ⟨b, i, none⟩) hb).trans (hBW.cell (p := ⟨b, i, none⟩) hb)
    have cs := cell00 ((k1.2 w.heap.size (by simp)).trans h0)
    have cn := cell00 k4
    have fn := frozen00 k4 0
    have hgd : l.getD x.1 default = l[x.1] := by simp [List.getD_eq_getElem?_getD, List.getElem?_eq_getElem hx]
    have hg0 : l.getD 0 default = l[0]'(by omega) := by simp [List.getD_eq_getElem?_getD, List.getElem?_eq_getElem (show 0 < l.length by omega)]
    have a1 := pathOk_k hok'.out hx
    have a2 := pathOk_k hok'.out (show 0 < l.length by omega)
    have hnext : pre ++ [x] <+: List.finRange l.length → (Nat.gcd z (l[x.1].k - (l[0]'(by omega)).k).natAbs = paceN l (pre.length + 1)) := fun hp => by
      obtain ⟨hp1, hp2⟩ := prefix_next hp
      rw [k6 hp1]
      show _ = Nat.gcd (paceN l pre.length) _
      rw [← hp2, hgd, hg0]
    rw [hgd] at a1
    rw [hg0] at a2
    clear hyield hcc hgd hg0 k6
    generalize l[x.1].k = kk at a1 hnext ⊢
    generalize (l[0]'(by omega)).k = k0 at a2 hnext c9
    rw [show off + 0 * 9 = off by omega] at c9
    have hsub : IntKind.i64.wrap (kk - k0) = kk - k0 := IntWalk.i64_in _ (by omega)
    obtain ⟨q, hq⟩ : ∃ q : Nat, Nat.gcd z (kk - k0).natAbs = q := ⟨_, rfl⟩
    rw [hq] at hnext
    have hqb : q ≤ 128 := by
      rw [← hq]
      by_cases hz0 : z = 0
      · subst hz0; rw [Nat.gcd_zero_left]; omega
      · exact Nat.le_trans (Nat.gcd_le_left _ (by omega)) k5
    have hgcd : ∀ W, Calls Tryz.prog 56 #[.int .i64 (z : Int), .int .i64 (kk - k0)] W fun e w' => e = .returned (.int .i64 (q : Int)) ∧ ∃ n, w' = W.drewN n := fun W => by
      have := pf_m_gcd (z : Int) (kk - k0) W (by omega) (by omega)
      rw [Int.natAbs_natCast, hq] at this
      exact this
    have hfin : ∀ (n : Nat) (aa : Act), ownPostG W0.heap.size (Kept w.heap.size [w.heap.size + 1 + 1]) (StI w W0 3 l) (fun _ _ _ => False) (pre ++ [x]) W .normal aa ((W.drewN n).setCell ⟨w.heap.size + 1, 0, none⟩ (.int .i64 (q : Int))) := fun n aa => by
      have hd : Le W (W.drewN n) := Below.of_drewN W n
      have hk2 : Kept w.heap.size [w.heap.size, w.heap.size + 2] W ((W.drewN n).setCell ⟨w.heap.size + 1, 0, none⟩ (.int .i64 (q : Int))) :=
        ⟨(hd.mono (by omega)).setCell (p := ⟨w.heap.size + 1, 0, none⟩) (by show w.heap.size ≤ w.heap.size + 1; omega) _, fun B hB => (Below.heap_setCell _ _ _ _ (show B ≠ w.heap.size + 1 by simp at hB; omega)).trans (hd.block _ (by simp at hB; omega))⟩
      refine ⟨(keepsFrom_le hd _).trans ((KeepsOthers.setCell _ _ _).from _), ⟨hk2.1, fun B hB => hk2.2 B (by simp at hB ⊢; omega)⟩, k1.trans hk2, by simp [World.setCell]; exact k2, q, heap_put0 (W := W.drewN n) k4, hqb, fun hp => ?_⟩
      rw [List.length_append, List.length_singleton]
      exact hnext hp
    have hsz1 : W0.heap.size ≤ w.heap.size + 3 := by omega
    have hsz2 : w.heap.size + 3 ≤ W0.heap.size := by omega
    have i1 : (0 : Int) < (l.length : Int) := by omega
    have i2 : 0 < l.length := by omega
    clear hq hnext
    have hsz' := Lib.hid hsz
    have hgcd' := Lib.hid hgcd
    have hfin' := Lib.hid hfin
    have k1' := Lib.hid k1
    have k4' := Lib.hid k4
    have hBW' := Lib.hid hBW
    have h0' := Lib.hid h0
    have h1' := Lib.hid h1
    have h2' := Lib.hid h2
    clear h2 h1 h0 hBW k4 k1 hfin hgcd hsz
    gi_wp2
    refine wpF_region_quiet_tail (lets_round la) 8 (by kernel_rfl) (by kernel_rfl) (by kernel_rfl) ?_
    simp only [List.take_succ_cons, List.take_zero, List.drop_succ_cons, List.drop_zero]
    repeat (go_big_quiet_step (exact Calls.quiet_of (hgcd'.out _)))
    refine wpQuiet_nil ?_
    intro _ hw'
    obtain ⟨nq, hw''⟩ := hw'
    subst hw''
    gi_wp2
    exact hfin'.out _ _
  · rintro D ys W hD rfl ⟨k1, k2, z, k4, k5, k6⟩ hDK
    have hz := k6 (finRange_pre _)
    rw [List.length_finRange] at hz
    have cR := cell00 k4
    have hbW : Below w.heap.size w W := hBW.trans k1.1
    clear hyield k6
    have hbW' := Lib.hid hbW
    have k4' := Lib.hid k4
    have hDK' := Lib.hid hDK
    have hz' := Lib.hid hz
    clear hz hDK k4 hbW
    gi_wp2
    refine leaves_marks w.heap.size [{ target := .collected D, args := #[] }] _ ⟨⟨D, rfl, by omega, hDK'.out, by simp⟩, trivial⟩ fun w9 hb hkeep => ?_
    exact ⟨.int .i64 (z : Int), by simp [results, Tryz.results55, go_sem], by rw [← hz'.out], hbW'.out.trans hb⟩
  · rintro D cc pre W hD hpre hf hDK
    exact hf.elim
/-- What Order returns beside the error. -/
noncomputable def ordR (l : List ArmA) : Int := if pathE l = 0 then (orderV l : Int) else 0
theorem ordR_bad {l : List ArmA} (h : pathE l ≠ 0) : ordR l = 0 := if_neg h
theorem ordR_ok {l : List ArmA} (h : pathE l = 0) : ordR l = orderV l := if_pos h
theorem arm_first {w : World} {v : Value} {l : List ArmA} {tv : Nat → Array Value} (h : ArmsV w v l tv) (h0 : 0 < l.length) : ∃ b off c, v = .slice (some ⟨b, off, none⟩) l.length c ∧ c ≤ maxLen ∧ b < w.heap.size ∧ w.cell? ⟨b, off, none⟩ = some (.int .i64 (l.getD 0 default).k) := by
  obtain ⟨A, c, rfl, hlc, hcm, hAN, hki, htv, hr⟩ := h
  obtain ⟨b, off, rfl, hb, hcc⟩ := hr h0
  obtain ⟨-, -, -, -, -, -, -, -, -, -, -, -, -, -, -, -, -, c9, -⟩ := hcc 0 h0
  have hg0 : l.getD 0 default = l[0] := by simp [List.getD_eq_getElem?_getD, List.getElem?_eq_getElem h0]
  rw [Nat.zero_mul, Nat.add_zero] at c9
  exact ⟨b, off, c, rfl, hcm, hb, by rw [hg0]; exact c9⟩
theorem orderV_le {l : List ArmA} (h : pathE l = 0) : orderV l ≤ 1000000 := by
  rcases pathE_cases l with ⟨-, hlen, hok⟩ | ⟨h1, -⟩
  · unfold orderV
    split
    · omega
    · split
      · split <;> omega
      · exact Nat.le_trans (Nat.div_le_self _ _) (Nat.le_trans (paceN_le hok _ (Nat.le_refl _)) (by omega))
  · exact absurd h h1
set_option maxRecDepth 100000 in
set_option maxHeartbeats 4000000 in
theorem pf_m_Order (l : List ArmA) (v : Value) (w : World) (hv : ArmsL w v l) :
    Calls Tryz.prog 30 #[v] w fun e w' => e = .returned (.tuple #[.int .i64 (ordR l), .int .i64 (pathE l)]) ∧ Le w w' := by
  obtain ⟨tv, hvv⟩ := hv.vals
  have hcp := pf_m_CheckPath l v w hv
  rcases pathE_cases l with ⟨h0, hlen, hok⟩ | ⟨h0, -⟩
  · rw [ordR_ok h0, h0]
    rw [h0] at hcp
    rcases (show l.length = 0 ∨ l.length = 1 ∨ 2 ≤ l.length by omega) with h1 | h1 | h1
    · have ho : orderV l = 0 := by unfold orderV; rw [if_pos h1]
      rw [ho]
      obtain ⟨A, c, rfl, -⟩ := hvv
      rw [h1] at hcp ⊢
      have hcp' := Lib.hid hcp
      have ho' := Lib.hid ho
      have h1' := Lib.hid h1
      have h0' := Lib.hid h0
      have hok' := Lib.hid hok
      have hlen' := Lib.hid hlen
      clear hlen hok h0 h1 ho hcp
      go_enter Tryz.func30, Tryz.ntmps30
      go_wp2_with (first | (go_at_call 54; ((with_reducible refine (hcp'.out).mono ?_); rintro e w' ⟨rfl, hle1⟩)))
      go_ret2
      exact ⟨rfl, hle1⟩
    · obtain ⟨b, off, c, rfl, hcm, hb, hc0⟩ := arm_first hvv (by omega)
      unfold maxLen at hcm
      rw [h1] at hcp ⊢
      by_cases hk : (l.getD 0 default).k = 0
      · have ho : orderV l = 1 := by unfold orderV; rw [if_neg (by omega), if_pos h1, if_pos hk]
        rw [ho]
        rw [hk] at hc0
        have hcp' := Lib.hid hcp
        have ho' := Lib.hid ho
        have h1' := Lib.hid h1
        have h0' := Lib.hid h0
        have hok' := Lib.hid hok
        have hlen' := Lib.hid hlen
        have hk' := Lib.hid hk
        clear hk hlen hok h0 h1 ho hcp
        go_enter Tryz.func30, Tryz.ntmps30
        go_wp2_with (fail)
        go_at_call 54
        refine hcp'.out.mono ?_
        rintro e w1 ⟨rfl, hle1⟩
        have hc1 := (hle1.cell (p := ⟨b, off, none⟩) hb).trans hc0
        have hle1' := Lib.hid hle1
        clear hle1
        go_wp2
        go_ret2
        exact ⟨rfl, hle1'.out⟩
      · have ho : orderV l = 0 := by unfold orderV; rw [if_neg (by omega), if_pos h1, if_neg hk]
        rw [ho]
        generalize (l.getD 0 default).k = k0 at hc0 hk
        have hk2 : (k0 == 0) = false := by simpa using hk
        have hcp' := Lib.hid hcp
        have ho' := Lib.hid ho
        have h1' := Lib.hid h1
        have h0' := Lib.hid h0
        have hok' := Lib.hid hok
        have hlen' := Lib.hid hlen
        clear hlen hok h0 h1 ho hcp
        go_enter Tryz.func30, Tryz.ntmps30
        go_wp2_with (fail)
        go_at_call 54
        refine hcp'.out.mono ?_
        rintro e w1 ⟨rfl, hle1⟩
        have hc1 := (hle1.cell (p := ⟨b, off, none⟩) hb).trans hc0
        have hle1' := Lib.hid hle1
        clear hle1
        go_wp2
        go_ret2
        exact ⟨rfl, hle1'.out⟩
    · obtain ⟨b, off, c, rfl, hcm, hb, hc0⟩ := arm_first hvv (by omega)
      unfold maxLen at hcm
      obtain ⟨P, hP⟩ : ∃ P, paceN l l.length = P := ⟨_, rfl⟩
      have hPp : 0 < P := by rw [← hP]; exact paceN_pos hok h1
      have hPb : P ≤ 128 := by rw [← hP]; exact paceN_le hok _ (Nat.le_refl _)
      obtain ⟨G, hG⟩ : ∃ G, Nat.gcd P (l.getD 0 default).k.natAbs = G := ⟨_, rfl⟩
      have hGp : 0 < G := by rw [← hG]; exact Nat.gcd_pos_of_pos_left _ hPp
      have ho : orderV l = P / G := by unfold orderV; rw [if_neg (by omega), if_neg (by omega), hP, hG]
      obtain ⟨R, hR⟩ : ∃ R, P / G = R := ⟨_, rfl⟩
      have hRb : R ≤ 128 := by rw [← hR]; exact Nat.le_trans (Nat.div_le_self _ _) hPb
      rw [ho, hR]
      have hk := pathOk_k hok (show 0 < l.length by omega)
      generalize (l.getD 0 default).k = k0 at hc0 hG hk
      have hst : ∀ W, Le w W → Calls Tryz.prog 55 #[.slice (some ⟨b, off, none⟩) l.length c] W fun e w' => e = .returned (.int .i64 (P : Int)) ∧ Le W w' := fun W h => by
        have := pf_m_step l _ W (hv.le h) hok hlen
        rw [hP] at this
        exact this
      have hgc : ∀ W, Calls Tryz.prog 56 #[.int .i64 (P : Int), .int .i64 k0] W fun e w' => e = .returned (.int .i64 (G : Int)) ∧ ∃ n, w' = W.drewN n := fun W => by
        have := pf_m_gcd (P : Int) k0 W (by omega) (by omega)
        rw [Int.natAbs_natCast, hG] at this
        exact this
      have hG1 : ((G : Int) == 0) = false := by simp; omega
      have hG2 : ¬ (G : Int) = 0 := by omega
      have hdiv : (P : Int) / (G : Int) = (R : Int) := by rw [← hR]; simp
      have hdiv2 : (P : Int).tdiv (G : Int) = (R : Int) := by rw [Int.tdiv_eq_ediv_of_nonneg (by omega)]; exact hdiv
      have hl1 : ((l.length : Int) == 1) = false := by simp; omega
      have hl2 : ¬ (l.length : Int) < 2 := by omega
      have hl3 : ¬ l.length < 2 := by omega
      have hl4 : (0 : Int) < (l.length : Int) := by omega
      have hl5 : ¬ l.length = 1 := by omega
      have hcp' := Lib.hid hcp
      have ho' := Lib.hid ho
      have h0' := Lib.hid h0
      have hok' := Lib.hid hok
      have hlen' := Lib.hid hlen
      have hP' := Lib.hid hP
      have hG' := Lib.hid hG
      have hR' := Lib.hid hR
      have hst' := Lib.hid hst
      have hgc' := Lib.hid hgc
      clear hgc hst hR hG hP hlen hok h0 ho hcp
      go_enter Tryz.func30, Tryz.ntmps30
      go_wp2_with (fail)
      go_at_call 54
      refine hcp'.out.mono ?_
      rintro e w1 ⟨rfl, hle1⟩
      have hle1' := Lib.hid hle1
      clear hle1
      go_wp2_with (fail)
      go_at_call 55
      refine (hst'.out w1 hle1'.out).mono ?_
      rintro e w2 ⟨rfl, hle2⟩
      have hle12 := hle1'.out.trans hle2
      have hc2 := (hle12.cell (p := ⟨b, off, none⟩) hb).trans hc0
      have hle2' := Lib.hid hle2
      have hle12' := Lib.hid hle12
      clear hle12 hle2
      go_wp2_with (fail)
      go_at_call 56
      refine (hgc'.out w2).mono ?_
      rintro e w3 ⟨rfl, n, rfl⟩
      go_wp2
      go_ret2
      exact ⟨rfl, hle12'.out.trans (Below.of_drewN _ _)⟩
  · rw [ordR_bad h0]
    obtain ⟨A, c, rfl, -⟩ := hvv
    have hE : (pathE l != 0) = true := by simpa using h0
    have hE2 : (pathE l == 0) = false := by simpa using h0
    generalize pathE l = E at hcp h0 hE hE2 ⊢
    have hcp' := Lib.hid hcp
    clear hcp
    go_enter Tryz.func30, Tryz.ntmps30
    go_wp2_with (first | (go_at_call 54; ((with_reducible refine (hcp'.out).mono ?_); rintro e w' ⟨rfl, hle1⟩)))
    go_ret2
    exact ⟨rfl, hle1⟩
set_option maxRecDepth 100000 in
set_option maxHeartbeats 4000000 in
theorem pf_pat_Around (l : List ArmA) (v : Value) (n : Int) (w : World) (hv : ArmsL w v l) :
    Calls Tryz.prog 9 #[v, .int .i64 n] w fun e w' => e = .returned (.tuple #[.int .i64 (aroundV l n).1, .int .i64 (aroundV l n).2]) ∧ Le w w' := by
  obtain ⟨tv, hvv⟩ := hv.vals
  have hcp := pf_m_Order l v w hv
  obtain ⟨A, c, rfl, -⟩ := hvv
  by_cases h0 : pathE l = 0
  · rw [ordR_ok h0, h0] at hcp
    by_cases hn : 1 ≤ n ∧ n ≤ 1000
    · have hwn : within n 1 1000 = true := within_iff.2 hn
      obtain ⟨N, rfl⟩ : ∃ N : Nat, n = (N : Int) := ⟨n.toNat, by omega⟩
      by_cases ho : orderV l = 0
      · have hv1 : aroundV l (N : Int) = (1, 0) := by unfold aroundV; rw [if_neg (by simp [h0]), if_neg (by simp; omega), if_pos ho]
        rw [hv1]
        rw [ho] at hcp
        have hcp' := Lib.hid hcp
        have hv1' := Lib.hid hv1
        have ho' := Lib.hid ho
        have h0' := Lib.hid h0
        clear h0 ho hv1 hcp
        go_enter Tryz.func9, Tryz.ntmps9
        go_wp2_with (first | (go_at_call 30; ((with_reducible refine (hcp'.out).mono ?_); rintro e w' ⟨rfl, hle1⟩)) | (go_at_call 17; ((with_reducible refine (pf_within_pattern _ _ _ _).mono ?_); rintro e w' ⟨rfl, rfl⟩; rw [hwn])))
        go_ret2
        exact ⟨rfl, hle1⟩
      · obtain ⟨O, hO⟩ : ∃ O, orderV l = O := ⟨_, rfl⟩
        obtain ⟨G, hG⟩ : ∃ G, Nat.gcd N O = G := ⟨_, rfl⟩
        obtain ⟨R, hR⟩ : ∃ R, N / G = R := ⟨_, rfl⟩
        have hv1 : aroundV l (N : Int) = ((R : Int), 0) := by unfold aroundV; rw [if_neg (by simp [h0]), if_neg (by simp; omega), if_neg ho, hO, Int.toNat_natCast, hG, hR]
        rw [hv1]
        have hRb : R ≤ 1000 := by rw [← hR]; exact Nat.le_trans (Nat.div_le_self _ _) (by omega)
        rw [hO] at hcp ho
        have hOb : O ≤ 1000000 := by rw [← hO]; exact orderV_le h0
        have hGp : 0 < G := by rw [← hG]; exact Nat.gcd_pos_of_pos_left _ (by omega)
        have hgc : ∀ W, Calls Tryz.prog 31 #[.int .i64 (N : Int), .int .i64 (O : Int)] W fun e w' => e = .returned (.int .i64 (G : Int)) ∧ ∃ n, w' = W.drewN n := fun W => by
          have := pf_pgcd N O W (by omega) hOb
          rw [hG] at this
          exact this
        have hG1 : ((G : Int) == 0) = false := by simp; omega
        have hG2 : ¬ (G : Int) = 0 := by omega
        have hdiv : (N : Int) / (G : Int) = (R : Int) := by rw [← hR]; simp
        have hdiv2 : (N : Int).tdiv (G : Int) = (R : Int) := by rw [Int.tdiv_eq_ediv_of_nonneg (by omega)]; exact hdiv
        have hO1 : ((O : Int) == 0) = false := by simp; omega
        have hO2 : ¬ O = 0 := ho
        have hcp' := Lib.hid hcp
        have hv1' := Lib.hid hv1
        have h0' := Lib.hid h0
        have hO' := Lib.hid hO
        have hG' := Lib.hid hG
        have hR' := Lib.hid hR
        have hgc' := Lib.hid hgc
        clear hgc hR hG hO h0 hv1 hcp
        go_enter Tryz.func9, Tryz.ntmps9
        go_wp2_with (first | (go_at_call 30; ((with_reducible refine (hcp'.out).mono ?_); rintro e w' ⟨rfl, hle1⟩)) | (go_at_call 17; ((with_reducible refine (pf_within_pattern _ _ _ _).mono ?_); rintro e w' ⟨rfl, rfl⟩; rw [hwn])) | (go_at_call 31; ((with_reducible refine (hgc'.out _).mono ?_); rintro e w' ⟨rfl, n, rfl⟩)))
        go_ret2
        exact ⟨rfl, hle1.trans (Below.of_drewN _ _)⟩
    · have hwn : within n 1 1000 = false := by rw [← Bool.not_eq_true, within_iff]; exact hn
      have hv1 : aroundV l n = (0, 2) := by unfold aroundV; rw [if_neg (by simp [h0]), if_pos hn]
      rw [hv1]
      generalize orderV l = O at hcp
      have hcp' := Lib.hid hcp
      have hv1' := Lib.hid hv1
      have h0' := Lib.hid h0
      clear h0 hv1 hcp
      go_enter Tryz.func9, Tryz.ntmps9
      go_wp2_with (first | (go_at_call 30; ((with_reducible refine (hcp'.out).mono ?_); rintro e w' ⟨rfl, hle1⟩)) | (go_at_call 17; ((with_reducible refine (pf_within_pattern _ _ _ _).mono ?_); rintro e w' ⟨rfl, rfl⟩; rw [hwn])))
      go_ret2
      exact ⟨rfl, hle1⟩
  · have hv1 : aroundV l n = (0, pathE l) := by unfold aroundV; rw [if_pos h0]
    rw [hv1]
    rw [ordR_bad h0] at hcp
    have hE : (pathE l != 0) = true := by simpa using h0
    have hE2 : (pathE l == 0) = false := by simpa using h0
    generalize pathE l = E at hcp h0 hE hE2 ⊢
    have hcp' := Lib.hid hcp
    have hv1' := Lib.hid hv1
    clear hv1 hcp
    go_enter Tryz.func9, Tryz.ntmps9
    go_wp2_with (first | (go_at_call 30; ((with_reducible refine (hcp'.out).mono ?_); rintro e w' ⟨rfl, hle1⟩)))
    go_ret2
    exact ⟨rfl, hle1⟩
end Go.Proofs.YtbikpadjmmgpcaaGreat
