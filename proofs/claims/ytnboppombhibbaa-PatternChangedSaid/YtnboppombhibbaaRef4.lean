/- The reference of layer 4: lift, Period, Great, Phase. The reference of layer 4: Phase. A block of the call's own that stays as it is: what the world keeps of it. -/
import Derived.Test.YtnboppombhibbaaRefLift
import Derived.Test.YtnboppombhibbaaPhase
namespace Go.Proofs.Ytnboppombhibbaa
open Go.RowKit
set_option linter.unusedVariables false
set_option linter.unusedSimpArgs false
theorem pf_r4_lift (v : Value) (p : Prog) (w : World) (hv : IsProg w v p) (hp : BenchFacts p) :
    Calls Try.prog 52 #[v] w fun e w' => ∃ v', e = .returned v' ∧ Below w.heap.size w w' ∧ w'.ownsRow w.heap.size 3 1 v' (liftL p.ros p.rub).length ((liftL p.ros p.rub).map vint) := by
  obtain ⟨v0, v1, v5, rfl, h0, h1, h5⟩ := hv
  have h0' := Lib.hid h0
  have h1' := Lib.hid h1
  clear h0 h1 h5
  go_enter Try.func52, Try.ntmps52
  go_wp2_with (first | (go_at_call 89; refine (pf_Lifted _ _ p.ros p.rub _ (h0'.out.below (alc1 _ _)) (h1'.out.below (alc1 _ _)) hp.ros hp.rub).mono ?_; rintro e w' ⟨v', rfl, hb, ho⟩))
  go_ret
  exact ⟨v', rfl, (alc1 _ _).trans (hb.mono (by simp)), own_base ho (by simp)⟩
theorem pf_r4_Period (v : Value) (p : Prog) (w : World) (hv : IsProg w v p) (hp : BenchFacts p) :
    Calls Try.prog 70 #[v] w fun e w' => e = .returned (.int .i64 (periodL (liftL p.ros p.rub))) ∧ Below w.heap.size w w' := by
  have hv0 := Lib.hid hv
  have hr0 := hp.ros0
  have hr1 := hp.ros1
  obtain ⟨v0, v1, v5, rfl, h0, h1, h5⟩ := hv
  clear h0 h1 h5
  go_enter Try.func70, Try.ntmps70
  go_wp2_with (first | (go_at_call 52; refine (pf_r4_lift _ p _ (hv0.out.below (alc1 _ _)) hp).mono ?_; rintro e w1 ⟨v', rfl, hb, ho⟩; have hI := Lib.hid (Arr.of_own ho); clear ho) | (go_at_call 96; refine (pf_Least _ _ _ hI.out (by rw [liftL_length]; omega) (by rw [liftL_length]; omega)).mono ?_; rintro e w2 ⟨rfl, hb2⟩))
  go_ret
  exact ⟨rfl, (alc1 _ _).trans ((hb.trans (hb2.mono hb.size)).mono (by simp))⟩
def greatB (p : Prog) : Bool := decide (120 < p.ros.length) || (decide (120 < p.rub.length) || decide (20 < p.shifts.length))
set_option maxRecDepth 100000 in
theorem pf_r4_Great (v : Value) (p : Prog) (w : World) (hv : IsProg w v p) :
    Calls Try.prog 14 #[v] w fun e w' => e = .returned (.bool (greatB p)) ∧ Below w.heap.size w w' := by
  obtain ⟨v0, v1, v5, rfl, h0, h1, h5⟩ := hv
  have h0' := Lib.hid h0
  have h1' := Lib.hid h1
  obtain ⟨A5, c5, rfl, hc5, hm5, _, _⟩ := h5
  clear h0 h1
  unfold greatB
  obtain ⟨X, hX⟩ : ∃ X, decide (120 < p.ros.length) = X := ⟨_, rfl⟩
  obtain ⟨Y, hY⟩ : ∃ Y, decide (120 < p.rub.length) = Y := ⟨_, rfl⟩
  obtain ⟨Z, hZ⟩ : ∃ Z, decide (20 < p.shifts.length) = Z := ⟨_, rfl⟩
  rw [hX, hY, hZ]
  have hX' := Lib.hid hX
  have hY' := Lib.hid hY
  have hZ' : Z = decide ((20 : Int) < (p.shifts.length : Int)) := by rw [← hZ]; congr 1; exact propext (by omega)
  clear hX hY hZ
  cases X
  · cases Y
    · subst hZ'
      go_enter Try.func14, Try.ntmps14
      go_wp2_with (first | (go_at_call 50; refine (pf_r3_Great _ p.ros _ (h0'.out.below (alc1 _ _))).mono ?_; rintro e w' ⟨rfl, rfl⟩; rw [hX'.out]) | (go_at_call 50; refine (pf_r3_Great _ p.rub _ (h1'.out.below (alc1 _ _))).mono ?_; rintro e w' ⟨rfl, rfl⟩; rw [hY'.out]))
      go_ret
      exact ⟨rfl, alc1 _ _⟩
    · go_enter Try.func14, Try.ntmps14
      go_wp2_with (first | (go_at_call 50; refine (pf_r3_Great _ p.ros _ (h0'.out.below (alc1 _ _))).mono ?_; rintro e w' ⟨rfl, rfl⟩; rw [hX'.out]) | (go_at_call 50; refine (pf_r3_Great _ p.rub _ (h1'.out.below (alc1 _ _))).mono ?_; rintro e w' ⟨rfl, rfl⟩; rw [hY'.out]))
      go_ret
      exact ⟨rfl, alc1 _ _⟩
  · go_enter Try.func14, Try.ntmps14
    go_wp2_with (first | (go_at_call 50; refine (pf_r3_Great _ p.ros _ (h0'.out.below (alc1 _ _))).mono ?_; rintro e w' ⟨rfl, rfl⟩; rw [hX'.out]) | (go_at_call 50; refine (pf_r3_Great _ p.rub _ (h1'.out.below (alc1 _ _))).mono ?_; rintro e w' ⟨rfl, rfl⟩; rw [hY'.out]))
    go_ret
    exact ⟨rfl, alc1 _ _⟩
end Go.Proofs.Ytnboppombhibbaa
namespace Go.Proofs.Ytnboppombhibbaa
open Go.RowKit
set_option linter.unusedVariables false
set_option linter.unusedSimpArgs false
set_option maxRecDepth 100000 in
set_option maxHeartbeats 2000000 in
theorem pf_r4_Phase (v : Value) (p : Prog) (j : Int) (w : World) (hv : IsProg w v p) (hp : BenchFacts p) (h1 : -1000000 ≤ j) (h2 : j ≤ 1000000) :
    Calls Try.prog 56 #[v, .int .i64 j] w fun e w' => e = .returned (.int .i64 (phaseI p j)) ∧ Below w.heap.size w w' := by
  obtain ⟨v0, v1, v5, rfl, hv0, hv1, hv5⟩ := hv
  have hv5' := Lib.hid hv5
  obtain ⟨A0, c0, rfl, hc0, hm0, _, _⟩ := hv0
  obtain ⟨A5, c5, rfl, hc5, hm5, _, _⟩ := hv5
  clear hv1
  have hr0 := hp.ros0
  have hr1 := hp.ros1
  have hs0 := hp.sh0
  have hs1 := hp.sh1
  have hat0 := Int.emod_nonneg j (show (p.shifts.length : Int) ≠ 0 by omega)
  have hat1 := Int.emod_lt_of_pos j (show (0 : Int) < (p.shifts.length : Int) by omega)
  obtain ⟨a, ha⟩ : ∃ a : Nat, j % (p.shifts.length : Int) = (a : Int) := ⟨_, (Int.toNat_of_nonneg hat0).symm⟩
  have hq := div_bound j p.shifts.length h1 h2 hs0 hs1
  have htd := tdiv_around j p.shifts.length (by omega)
  have hS := hp.sum p.shifts.length (Nat.le_refl _)
  have hmb := mul_bound _ _ hq.1 hq.2 hS
  rw [ha] at hat0 hat1 htd
  obtain ⟨q, hQ⟩ : ∃ q, j / (p.shifts.length : Int) = q := ⟨_, rfl⟩
  have hval : phaseI p j = ((q * sumTo p.shifts p.shifts.length) % (p.ros.length : Int) + sumTo p.shifts a).tmod (p.ros.length : Int) := by
    have hA := hp.sum a (by omega)
    have h0 := Int.emod_nonneg (q * sumTo p.shifts p.shifts.length) (show (p.ros.length : Int) ≠ 0 by omega)
    rw [Int.tmod_eq_emod_of_nonneg (by omega), Int.emod_add_emod]
    unfold phaseI
    rw [ha, hQ, Int.toNat_natCast]
  rw [hQ] at htd hq hmb
  rw [hval]
  have ha' := Lib.hid ha
  clear hval ha hQ
  have hw0 : IntKind.i64.wrap (j - (a : Int)) = j - a := IntWalk.i64_in _ (by omega)
  have hw1 : IntKind.i64.wrap q = q := IntWalk.i64_in _ (by omega)
  go_enter Try.func56, Try.ntmps56
  go_wp2
  go_quiet (fail)
  go_wp2
  have hB1 := below_drewN' (alc1 w (.cells #[.slice A0 p.ros.length c0, v1, .int .i64 p.start, .int .i64 p.throw, .int .i64 p.adv, .slice A5 p.shifts.length c5] 24)) nq
  have hx1 : ((w.alloc (.cells #[.slice A0 p.ros.length c0, v1, .int .i64 p.start, .int .i64 p.throw, .int .i64 p.adv, .slice A5 p.shifts.length c5] 24)).drewN nq).heap[w.heap.size]? = some (.cells #[.slice A0 p.ros.length c0, v1, .int .i64 p.start, .int .i64 p.throw, .int .i64 p.adv, .slice A5 p.shifts.length c5] 24) := alc_at _ _
  generalize ((w.alloc (.cells #[.slice A0 p.ros.length c0, v1, .int .i64 p.start, .int .i64 p.throw, .int .i64 p.adv, .slice A5 p.shifts.length c5] 24)).drewN nq) = w1 at hB1 hx1 ⊢
  obtain ⟨p0, p1, p2, p3, p4, p5⟩ := prog_cells hx1
  have hv6 := Lib.hid (hv5'.out.below hB1)
  clear hx1 p1 p2 p3 p4
  go_loop [8, 7] (fun i s => ∃ k : Nat, k ≤ p.shifts.length ∧ i = .int .i64 k ∧ s = .int .i64 (sumTo p.shifts k)) (fun i _ => p.shifts.length - (intOf i).toNat)
  case atStart => exact ⟨0, by omega, rfl, rfl⟩
  case round =>
    obtain ⟨k, hk, rfl, rfl⟩ := hrel
    by_cases hlt : k < p.shifts.length
    · obtain ⟨b, off, rfl, hbz, hck⟩ := hv6.out.look hlt
      have hsk := hp.sum k (by omega)
      have hsh := hp.sh k hlt
      have hsu := Lib.hid (sumTo_succ p.shifts k hlt)
      generalize p.shifts[k] = x at hck hsh hsu
      generalize sumTo p.shifts k = y at hsk hsu
      go_wp2
      go_round
      case rel => exact ⟨k + 1, by omega, by go_num, by rw [hsu.out]⟩
      case measure => simp [intOf]; omega
    · obtain rfl : k = p.shifts.length := by omega
      generalize hSg : sumTo p.shifts p.shifts.length = S at hS hmb
      have hSg' := Lib.hid hSg
      clear hSg
      have hw2 : IntKind.i64.wrap (q * S) = q * S := IntWalk.i64_in _ (by omega)
      have hcall1 : ∀ W : World, Calls Try.prog 71 #[.int .i64 j, .int .i64 p.shifts.length] W fun e w' => e = .returned (.int .i64 a) ∧ W = w' := fun W => by
        have h := pf_r3_Around j p.shifts.length W (by omega) (by omega) (by unfold Mid; omega)
        rw [ha'.out] at h
        exact h
      obtain ⟨r, hr⟩ : ∃ r, (q * S) % (p.ros.length : Int) = r := ⟨_, rfl⟩
      have hr2 : 0 ≤ r ∧ r < p.ros.length := ⟨by rw [← hr]; exact Int.emod_nonneg _ (by omega), by rw [← hr]; exact Int.emod_lt_of_pos _ (by omega)⟩
      have hcall2 : ∀ W : World, Calls Try.prog 71 #[.int .i64 (q * S), .int .i64 p.ros.length] W fun e w' => e = .returned (.int .i64 r) ∧ W = w' := fun W => by
        have h := pf_r3_Around (q * S) p.ros.length W (by omega) (by omega) (by unfold Mid; omega)
        rw [hr] at h
        exact h
      have hcall1' := Lib.hid hcall1
      have hcall2' := Lib.hid hcall2
      have hr' := Lib.hid hr
      clear hcall1 hcall2 hr
      go_wp2_with (first | (go_at_call 71; ((with_reducible refine (hcall1'.out _).mono ?_); rintro e w' ⟨rfl, rfl⟩)) | (go_at_call 71; ((with_reducible refine (hcall2'.out _).mono ?_); rintro e w' ⟨rfl, rfl⟩)))
      go_loop [11, 10] (fun i s => ∃ k : Nat, k ≤ a ∧ i = .int .i64 k ∧ s = .int .i64 (r + sumTo p.shifts k)) (fun i _ => a - (intOf i).toNat)
      case atStart => exact ⟨0, by omega, rfl, by simp [sumTo]⟩
      case round =>
        obtain ⟨k, hk2, rfl, rfl⟩ := hrel
        have hal : a < p.shifts.length := by omega
        by_cases hlt : k < a
        · obtain ⟨b, off, rfl, hbz, hck⟩ := hv6.out.look (show k < p.shifts.length by omega)
          have hsk := hp.sum k (by omega)
          have hsh := hp.sh k (by omega)
          have hsu := Lib.hid (sumTo_succ p.shifts k (by omega))
          generalize p.shifts[k] = x at hck hsh hsu
          generalize sumTo p.shifts k = y at hsk hsu
          go_wp2
          go_round
          case rel => exact ⟨k + 1, by omega, by go_num, by rw [hsu.out]; go_num⟩
          case measure => simp [intOf]; omega
        · obtain rfl : k = a := by omega
          have hsk := hp.sum k (by omega)
          generalize hy : sumTo p.shifts k = y at hsk ⊢
          have hy' := Lib.hid hy
          clear hy
          go_wp2
          go_ret
          exact ⟨ret_int (by rw [hSg'.out, hr'.out, hy'.out]; exact (Int.tmod_eq_emod_of_nonneg (by omega)).symm), hB1⟩
end Go.Proofs.Ytnboppombhibbaa
namespace Go.Proofs.Ytnboppombhibbaa
open Go.RowKit
set_option linter.unusedVariables false
/-- The block B holds the object a in w1, and nothing of w has turned. -/
structure Box (w : World) (B : Nat) (a : Obj) (w1 : World) : Prop where
  below : Below w.heap.size w w1
  block : w1.heap[B]? = some a
theorem Box.lt {w : World} {B : Nat} {a : Obj} {w1 : World} (h : Box w B a w1) : B < w1.heap.size := (Array.getElem?_eq_some_iff.1 h.block).1
theorem Box.size {w : World} {B : Nat} {a : Obj} {w1 : World} (h : Box w B a w1) : w.heap.size ≤ w1.heap.size := h.below.size
theorem Box.start (w : World) (a : Obj) : Box w w.heap.size a (w.alloc a) := ⟨alc1 _ _, alc_at _ _⟩
theorem Box.next {w : World} {B : Nat} {a : Obj} {w1 w2 : World} (h : Box w B a w1) (k : Below w1.heap.size w1 w2) : Box w B a w2 :=
  ⟨h.below.trans (k.mono h.size), (k.block _ h.lt).trans h.block⟩
theorem Box.nextB {w : World} {B : Nat} {a : Obj} {w1 w2 : World} (h : Box w B a w1) {n : Nat} (k : Below n w1 w2) (hB : B < n) (hn : w.heap.size ≤ n) : Box w B a w2 :=
  ⟨h.below.trans (k.mono hn), (k.block _ hB).trans h.block⟩
theorem Box.alloc {w : World} {B : Nat} {a : Obj} {w1 : World} (h : Box w B a w1) (b : Obj) : Box w B a (w1.alloc b) := h.next (alc1 _ _)
theorem Box.drewN {w : World} {B : Nat} {a : Obj} {w1 : World} (h : Box w B a w1) (n : Nat) : Box w B a (w1.drewN n) := ⟨below_drewN' h.below n, h.block⟩
theorem Box.drew {w : World} {B : Nat} {a : Obj} {w1 : World} (h : Box w B a w1) : Box w B a w1.drew := ⟨h.below.drew, h.block⟩
/-- A program in a box: its cells. -/
theorem Box.prog {w : World} {B : Nat} {v0 v1 v2 v3 v4 v5 : Value} {t : TypeId} {w1 : World} (h : Box w B (.cells #[v0, v1, v2, v3, v4, v5] t) w1) :
    w1.cell? ⟨B, 0, none⟩ = some v0 ∧ w1.cell? ⟨B, 1, none⟩ = some v1 ∧ w1.cell? ⟨B, 2, none⟩ = some v2 ∧ w1.cell? ⟨B, 3, none⟩ = some v3 ∧ w1.cell? ⟨B, 4, none⟩ = some v4 ∧ w1.cell? ⟨B, 5, none⟩ = some v5 := prog_cells h.block
theorem Below.of_drewN (w : World) (n : Nat) : Below w.heap.size w (w.drewN n) := below_drewN' (Below.refl _ _) n
/-- An owned row is a list that reads. -/
theorem own_ints {w : World} {base : Nat} {e : TypeId} {v : Value} {n : Nat} {xs : List Int} (h : w.ownsRow base e 1 v n (xs.map vint)) : Ints w v xs := Arr.of_own h
/-- The result of a call that makes a list, or none. -/
def onOk (E : Int) (l : List Int) : List Int := if E = 0 then l else []
theorem onOk_zero (l : List Int) : onOk 0 l = l := rfl
theorem onOk_ne {E : Int} (h : E ≠ 0) (l : List Int) : onOk E l = [] := if_neg h
end Go.Proofs.Ytnboppombhibbaa
