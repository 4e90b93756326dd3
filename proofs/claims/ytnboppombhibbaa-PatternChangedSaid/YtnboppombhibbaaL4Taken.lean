/- The laws' helper taken: a move takes a cut's shape to that of another one. -/
import Derived.Test.YtnboppombhibbaaL4Shape
import Derived.Test.YtnboppombhibbaaTakesLaw
import Derived.Test.YtnboppombhibbaaSearchBody
namespace Go.Proofs.Ytnboppombhibbaa
open Go.RowKit Go.Lib
set_option linter.unusedVariables false
set_option linter.unusedSimpArgs false
attribute [local go_sem] Oper.semAt_some
attribute [local go_sem ↓] Go.wp_at_zero Go.wp_at_succ
/-- What shape returns. -/
def shL (p : Prog) (j : Int) : List Int := onOk (cutE p j) (shapeL p j)
theorem shL_length (p : Prog) (j : Int) : (shL p j).length ≤ 96 := by
  unfold shL
  by_cases h : cutE p j = 0
  · rw [h, onOk_zero, shapeL_length]
    exact (benchFacts (cutE_zero h).1).ros1
  · rw [onOk_ne h]; simp
def takenB (A B : List Int) (t : Int) (mi : Bool) : Bool := decide (A.length ≠ 0 ∧ A.length = B.length ∧ ∀ i, i < A.length → atR B (toI mi t i) = atR A i)
/-- Three boxes. -/
structure Tri (w : World) (a b c : Obj) (W : World) : Prop where
  below : Below w.heap.size w W
  size : w.heap.size + 3 ≤ W.heap.size
  one : W.heap[w.heap.size]? = some a
  two : W.heap[w.heap.size + 1]? = some b
  three : W.heap[w.heap.size + 1 + 1]? = some c
theorem Tri.next {w : World} {a b c : Obj} {W W2 : World} (h : Tri w a b c W) (hb : Below W.heap.size W W2) : Tri w a b c W2 :=
  ⟨h.below.trans (hb.mono h.below.size), Nat.le_trans h.size hb.size, (hb.block _ (by have := h.size; omega)).trans h.one, (hb.block _ (by have := h.size; omega)).trans h.two, (hb.block _ (by have := h.size; omega)).trans h.three⟩
theorem Tri.start (w : World) (a b c : Obj) : Tri w a b c (((w.alloc a).alloc b).alloc c) := by
  refine ⟨alc3 _ _ _ _, by simp, ?_, ?_, ?_⟩
  · exact (Below.heap_alloc _ _ _ (by simp; omega)).trans ((Below.heap_alloc _ _ _ (by simp)).trans (heap_alloc_new _ _))
  · exact (Below.heap_alloc _ _ _ (by simp)).trans (by have h := heap_alloc_new (w.alloc a) b; simpa only [World.size_alloc] using h)
  · have h := heap_alloc_new ((w.alloc a).alloc b) c; simpa only [World.size_alloc] using h
theorem Tri.drew {w : World} {a b c : Obj} {W : World} (h : Tri w a b c W) : Tri w a b c W.drew := ⟨h.below.drew, h.size, h.one, h.two, h.three⟩
theorem Tri.drewN {w : World} {a b c : Obj} {W : World} (h : Tri w a b c W) (n : Nat) : Tri w a b c (W.drewN n) := ⟨below_drewN' h.below n, h.size, h.one, h.two, h.three⟩
set_option maxRecDepth 100000 in
set_option maxHeartbeats 4000000 in
theorem pf_taken (vp vq : Value) (p q : Prog) (xc xt : Int) (xm xb : Bool) (j : Int) (w : World) (hvp : IsProg w vp p) (hvq : IsProg w vq q) (hc : -1000000 ≤ xc ∧ xc ≤ 1000000) (ht : -1000000 ≤ xt ∧ xt ≤ 1000000) (hj : -1000000 ≤ j ∧ j ≤ 1000000) :
    Calls Try.prog 43 #[vp, vq, .agg #[.int .i64 xc, .int .i64 xt, .bool xm, .bool xb], .int .i64 j] w fun e w' => e = .returned (.bool (takenB (shL p j) (shL q (toI xb xc j)) xt xm)) ∧ Below w.heap.size w w' := by
  have hp0 := Lib.hid hvp
  have hq0 := Lib.hid hvq
  obtain ⟨v0, v1, v5, rfl, h0, h1, h5⟩ := hvp
  obtain ⟨u0, u1, u5, rfl, k0, k1, k5⟩ := hvq
  clear h0 h1 h5 k0 k1 k5
  have ht0 := (Tri.start w (.cells #[v0, v1, .int .i64 p.start, .int .i64 p.throw, .int .i64 p.adv, v5] 24) (.cells #[u0, u1, .int .i64 q.start, .int .i64 q.throw, .int .i64 q.adv, u5] 24) (.cells #[.int .i64 xc, .int .i64 xt, .bool xm, .bool xb] 68)).drew
  obtain ⟨A, hA⟩ : ∃ A, shL p j = A := ⟨_, rfl⟩
  have hAl := shL_length p j
  have sp : ∀ W V, IsProg W V p → Calls Try.prog 39 #[V, .int .i64 j] W fun e w' => ∃ v', e = .returned v' ∧ Below W.heap.size W w' ∧ Ints w' v' A := fun W V h => (pf_shape V p j W h).mono (by rintro e w' ⟨v', h1, h2, h3⟩; rw [← hA]; exact ⟨v', h1, h2, own_ints h3⟩)
  rw [hA] at hAl ⊢
  have hw1 : IntKind.i64.wrap (xc + j) = xc + j := IntWalk.i64_in _ (by omega)
  have hw2 : IntKind.i64.wrap (xc - j) = xc - j := IntWalk.i64_in _ (by omega)
  cases xb
  all_goals
    simp only [toI, if_true, if_false, Bool.false_eq_true]
    obtain ⟨z, hz⟩ : ∃ z, z = z := ⟨j, rfl⟩
    first | (obtain ⟨B, hB⟩ : ∃ B, shL q (xc + j) = B := ⟨_, rfl⟩; have hBl := shL_length q (xc + j); rw [hB] at hBl ⊢; have sq : ∀ W V, IsProg W V q → Calls Try.prog 39 #[V, .int .i64 (xc + j)] W fun e w' => ∃ v', e = .returned v' ∧ Below W.heap.size W w' ∧ Ints w' v' B := fun W V h => (pf_shape V q (xc + j) W h).mono (by rintro e w' ⟨v', h1, h2, h3⟩; rw [← hB]; exact ⟨v', h1, h2, own_ints h3⟩)) | (obtain ⟨B, hB⟩ : ∃ B, shL q (xc - j) = B := ⟨_, rfl⟩; have hBl := shL_length q (xc - j); rw [hB] at hBl ⊢; have sq : ∀ W V, IsProg W V q → Calls Try.prog 39 #[V, .int .i64 (xc - j)] W fun e w' => ∃ v', e = .returned v' ∧ Below W.heap.size W w' ∧ Ints w' v' B := fun W V h => (pf_shape V q (xc - j) W h).mono (by rintro e w' ⟨v', h1, h2, h3⟩; rw [← hB]; exact ⟨v', h1, h2, own_ints h3⟩))
    obtain ⟨T, hT⟩ : ∃ T, takenB A B xt xm = T := ⟨_, rfl⟩
    rw [hT]
    have sp' := Lib.hid sp
    have sq' := Lib.hid sq
    have hA' := Lib.hid hA
    have hB' := Lib.hid hB
    have hz' := Lib.hid hz
    have hT' := Lib.hid hT
    clear hT hz hB hA sq sp
    go_enter Try.func43, Try.ntmps43
    go_wp2
    go_region_held3 (fun w' => w'.cell? ⟨w.heap.size, 0, none⟩ = some v0 ∧ w'.cell? ⟨w.heap.size, 1, none⟩ = some v1 ∧ w'.cell? ⟨w.heap.size, 2, none⟩ = some (.int .i64 p.start) ∧ w'.cell? ⟨w.heap.size, 3, none⟩ = some (.int .i64 p.throw) ∧ w'.cell? ⟨w.heap.size, 4, none⟩ = some (.int .i64 p.adv) ∧ w'.cell? ⟨w.heap.size, 5, none⟩ = some v5 ∧ w'.cell? ⟨w.heap.size + 1, 0, none⟩ = some u0 ∧ w'.cell? ⟨w.heap.size + 1, 1, none⟩ = some u1 ∧ w'.cell? ⟨w.heap.size + 1, 2, none⟩ = some (.int .i64 q.start) ∧ w'.cell? ⟨w.heap.size + 1, 3, none⟩ = some (.int .i64 q.throw) ∧ w'.cell? ⟨w.heap.size + 1, 4, none⟩ = some (.int .i64 q.adv) ∧ w'.cell? ⟨w.heap.size + 1, 5, none⟩ = some u5) (go_keep) (first | (go_at_call 39; with_reducible refine (sp'.out _ _ (hp0.out.below (Tri.below (by assumption)))).mono ?_; rintro e w' ⟨va, rfl, hb, hi⟩; have hIa := Lib.hid hi; clear hi; (first | have hIb := Lib.hid (hIb.out.below hb) | skip); have htx := Tri.next (by assumption) hb; obtain ⟨p0, p1, p2, p3, p4, p5⟩ := prog_cells htx.one; obtain ⟨q0, q1, q2, q3, q4, q5⟩ := prog_cells htx.two; clear hb) | (go_at_call 39; with_reducible refine (sq'.out _ _ (hq0.out.below (Tri.below (by assumption)))).mono ?_; rintro e w' ⟨vb, rfl, hb, hi⟩; have hIb := Lib.hid hi; clear hi; (first | have hIa := Lib.hid (hIa.out.below hb) | skip); have htx := Tri.next (by assumption) hb; obtain ⟨p0, p1, p2, p3, p4, p5⟩ := prog_cells htx.one; obtain ⟨q0, q1, q2, q3, q4, q5⟩ := prog_cells htx.two; clear hb))
    all_goals
      have htz := Lib.hid htx
      clear htx p0 p1 p2 p3 p4 p5 q0 q1 q2 q3 q4 q5
      rename_i hHeld
      clear hHeld
      by_cases hn0 : A.length = 0
      · obtain rfl : T = false := by rw [← hT'.out]; exact decide_eq_false (fun h => h.1 hn0)
        obtain ⟨Aa, ac, rfl, -⟩ := id hIa.out
        obtain ⟨Ab, bc, rfl, -⟩ := id hIb.out
        have hn1 : (A.length : Int) = 0 := by omega
        go_wp2
        go_ret
        exact ⟨rfl, htz.out.below⟩
      · obtain ⟨la, lo, ca, rfl, -, -, -, hca⟩ := Ints.cells hIa.out (by omega)
        by_cases hl : A.length = B.length
        · obtain ⟨lb, lp, cb, rfl, -, -, -, hcb⟩ := Ints.cells hIb.out (by omega)
          obtain ⟨n, hn⟩ : ∃ n, A.length = n := ⟨_, rfl⟩
          have hnb : B.length = n := by omega
          rw [hn, hnb]
          rw [hn] at hAl hn0
          have hnI : ((n : Int) == 0) = false := beq_eq_false_iff_ne.2 (by omega)
          have hcA : ∀ i, i < n → w'.cell? ⟨la, lo + i, none⟩ = some (.int .i64 (atR A i)) := fun i hi => by rw [hca i (by omega), atR_nat i (by omega)]
          have hcB : ∀ i, i < n → w'.cell? ⟨lb, lp + i, none⟩ = some (.int .i64 (atR B i)) := fun i hi => by rw [hcb i (by omega), atR_nat i (by omega)]
          have hAl' := Lib.hid hAl
          have hca' := Lib.hid hca
          have hcb' := Lib.hid hcb
          have hcA' := Lib.hid hcA
          have hcB' := Lib.hid hcB
          have hl' := Lib.hid hl
          have hn' := Lib.hid hn
          have hnb' := Lib.hid hnb
          clear hnb hn hl hcB hcA hcb hca
          have hfull : (∀ i, i < n → atR B (toI xm xt i) = atR A i) ↔ T = true := by
            rw [← hT'.out]
            unfold takenB
            rw [decide_eq_true_iff, hn'.out]
            exact ⟨fun h => ⟨hn0, hnb'.out.symm, h⟩, fun h => h.2.2⟩
          have hnP : 0 < n := by omega
          have hfull' := Lib.hid hfull
          have hn0' := Lib.hid hn0
          clear hn0 hfull
          go_wp2
          obtain ⟨OM, hOM, htz2⟩ : ∃ O, (∃ b3, O = Obj.cells #[.int .i64 xc, .int .i64 xt, .bool xm, .bool b3] 68) ∧ Tri w (Obj.cells #[v0, v1, Value.int IntKind.i64 p.start, Value.int IntKind.i64 p.throw, Value.int IntKind.i64 p.adv, v5] 24) (Obj.cells #[u0, u1, Value.int IntKind.i64 q.start, Value.int IntKind.i64 q.throw, Value.int IntKind.i64 q.adv, u5] 24) O w' := by
            refine ⟨_, ?_, htz.out⟩
            exact ⟨_, rfl⟩
          have hOM' := Lib.hid hOM
          have htz2' := Lib.hid htz2
          clear htz2 hOM
          go_loopw [42, 12, 13] (fun i _ _ wr => ∃ k : Nat, k ≤ n ∧ i = .int .i64 k ∧ Hid (∀ i : Nat, i < k → atR B (toI xm xt i) = atR A i) ∧ Hid (Tri w (Obj.cells #[v0, v1, Value.int IntKind.i64 p.start, Value.int IntKind.i64 p.throw, Value.int IntKind.i64 p.adv, v5] 24) (Obj.cells #[u0, u1, Value.int IntKind.i64 q.start, Value.int IntKind.i64 q.throw, Value.int IntKind.i64 q.adv, u5] 24) OM wr) ∧ Hid (∀ a, wr.cell? a = w'.cell? a)) (fun i _ _ _ => n - (intOf i).toNat)
          case atStart => exact ⟨0, Nat.zero_le _, rfl, Lib.hid (fun i h => absurd h (by omega)), htz2', Lib.hid (fun a => rfl)⟩
          case round =>
            obtain ⟨k, hk, rfl, hall, htw, hwc⟩ := hrel
            by_cases hlt : k < n
            · have hcx := (hwc.out _).trans (hcA'.out k hlt)
              have h3 := htw.out.three
              obtain ⟨b3, hb3⟩ := hOM'.out
              rw [hb3] at h3
              clear hb3
              obtain ⟨m0, m1, m2, m3⟩ := move_cells h3
              clear h3
              obtain ⟨z, hzd, hzb⟩ : ∃ z, toI xm xt k = z ∧ -2000000 ≤ z ∧ z ≤ 2000000 := ⟨_, rfl, by cases xm <;> simp [toI] <;> omega⟩
              have hni : (0 : Int) < n := by omega
              obtain ⟨f1, f2, f3, f4⟩ := tmod_facts z n hni
              have hr0 := Int.emod_nonneg z (show (n : Int) ≠ 0 by omega)
              have hr1 := Int.emod_lt_of_pos z hni
              obtain ⟨r, hr⟩ : ∃ r : Nat, z % (n : Int) = (r : Int) := ⟨_, (Int.toNat_of_nonneg hr0).symm⟩
              have hrn : r < n := by omega
              have hcy := (hwc.out _).trans (hcB'.out r hrn)
              have hat : atR B (toI xm xt k) = atR B (r : Int) := atR_mod _ _ _ (by rw [hnb'.out, hzd, hr]; exact (Int.emod_eq_of_lt (by omega) (by omega)).symm)
              obtain ⟨m, hm⟩ : ∃ m, z.tmod (n : Int) = m := ⟨_, rfl⟩
              rw [hm] at f1 f2 f3 f4
              have e2 : IntKind.i64.wrap (m + n) = m + n := IntWalk.i64_in _ (by omega)
              have e3 : (m + n).tmod (n : Int) = (r : Int) := by
                rw [Int.tmod_eq_emod_of_nonneg (by omega), Int.add_emod_right]
                by_cases h0 : m < 0
                · have h1 := f3 h0
                  rw [← hr, ← h1, ← Int.add_emod_right]
                  exact Int.emod_eq_of_lt (by omega) (by omega)
                · rw [f4 (by omega), hr]
                  exact Int.emod_eq_of_lt (by omega) (by omega)
              have i1 : (0 : Int) ≤ (k : Int) := by omega
              have i2 : (k : Int) < (n : Int) := by omega
              have i3 : (0 : Int) ≤ (r : Int) := by omega
              have i4 : (r : Int) < (n : Int) := by omega
              have hnz : ¬ (n : Int) = 0 := by omega
              have w3 : IntKind.i64.wrap (xt + (k : Int)) = xt + (k : Int) := IntWalk.i64_in _ (by omega)
              have w4 : IntKind.i64.wrap (xt - (k : Int)) = xt - (k : Int) := IntWalk.i64_in _ (by omega)
              have hnx : atR B (r : Int) = atR A (k : Int) → ∀ i : Nat, i < k + 1 → atR B (toI xm xt i) = atR A i := fun h i hi => by
                by_cases hik : i = k
                · rw [hik, hat]; exact h
                · exact hall.out i (by omega)
              have hno : ¬ atR B (r : Int) = atR A (k : Int) → T = false := fun h => by
                rcases Bool.eq_false_or_eq_true T with ht | ht
                · exact absurd (hat ▸ (hfull'.out.2 ht k hlt)) h
                · exact ht
              generalize atR B (r : Int) = y at hcy hnx hno
              generalize atR A (k : Int) = x at hcx hnx hno
              clear hat hr hr0 hr1 f1 f2 f3 f4 hzb
              have hnx' := Lib.hid hnx
              have hno' := Lib.hid hno
              have hni' := Lib.hid hni
              clear hni hno hnx
              by_cases hyx : y = x
              · subst hyx
                cases xm
                all_goals
                  first | (have hzz : xt + (k : Int) = z := hzd; replace w3 : IntKind.i64.wrap (xt + (k : Int)) = z := w3.trans hzz) | (have hzz : xt - (k : Int) = z := hzd; replace w4 : IntKind.i64.wrap (xt - (k : Int)) = z := w4.trans hzz)
                  have hzz' := Lib.hid hzz
                  have hzd' := Lib.hid hzd
                  clear hzd hzz
                  go_wp2
                  go_quiet (fail)
                  go_wp2
                  go_roundw
                  case rel => exact ⟨k + 1, by omega, by go_num, Lib.hid (hnx'.out (by first | rfl | trivial)), Lib.hid (htw.out.drewN _), Lib.hid (fun a => hwc.out a)⟩
                  case measure => simp [intOf]; omega
              · obtain rfl : T = false := hno'.out hyx
                have hyb : (y != x) = true := by simpa using hyx
                cases xm
                all_goals
                  first | (have hzz : xt + (k : Int) = z := hzd; replace w3 : IntKind.i64.wrap (xt + (k : Int)) = z := w3.trans hzz) | (have hzz : xt - (k : Int) = z := hzd; replace w4 : IntKind.i64.wrap (xt - (k : Int)) = z := w4.trans hzz)
                  have hzz' := Lib.hid hzz
                  have hzd' := Lib.hid hzd
                  have hyx' := Lib.hid hyx
                  clear hyx hzd hzz
                  go_wp2
                  go_quiet (fail)
                  go_wp2
                  go_ret
                  exact ⟨rfl, (htw.out.drewN _).below⟩
            · obtain rfl : k = n := by omega
              obtain rfl : T = true := hfull'.out.1 hall.out
              go_wp2
              go_ret
              exact ⟨rfl, htw.out.below⟩
        · obtain rfl : T = false := by rw [← hT'.out]; exact decide_eq_false (fun h => hl h.2.1)
          obtain ⟨Ab, bc, rfl, -⟩ := id hIb.out
          have hnI : ((A.length : Int) == 0) = false := beq_eq_false_iff_ne.2 (by omega)
          have hlI : ((A.length : Int) != (B.length : Int)) = true := bne_iff_ne.2 (fun h => hl (by omega))
          have hl' := Lib.hid hl
          have hn0' := Lib.hid hn0
          clear hn0 hl
          go_wp2
          go_ret
          exact ⟨rfl, htz.out.below⟩
end Go.Proofs.Ytnboppombhibbaa
