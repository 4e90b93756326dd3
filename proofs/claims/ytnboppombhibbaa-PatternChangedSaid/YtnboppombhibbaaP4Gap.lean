/- The gap: slices.Min, the reference's Gap. The reference's Gap. pattern.Gap. -/
import Derived.Test.YtnboppombhibbaaP4Tells
namespace Go.Proofs.Ytnboppombhibbaa
open Go.RowKit
set_option linter.unusedVariables false
set_option linter.unusedSimpArgs false
/-- The row of gaps at one shift: the first k steps. -/
def gapRow (p : Prog) (s : Int) (k : Nat) : List Int := (List.range k).map fun (a : Nat) => p.adv + p.throw * (atR (liftL p.ros p.rub) ((a : Int) - s) - atR (liftL p.ros p.rub) a)
def gapPre (p : Prog) (k : Nat) : List Int := (p.shifts.take k).flatMap fun s => gapRow p s p.ros.length
def minL (a : Int) (l : List Int) : Int := l.foldl (fun x y => min x y) a
def gapI (p : Prog) : Int := minL 1099511627776 (gapPre p p.shifts.length)
theorem gapRow_succ (p : Prog) (s : Int) (k : Nat) : gapRow p s (k + 1) = gapRow p s k ++ [p.adv + p.throw * (atR (liftL p.ros p.rub) ((k : Int) - s) - atR (liftL p.ros p.rub) k)] := by
  unfold gapRow; rw [List.range_succ]; simp
theorem gapRow_length (p : Prog) (s : Int) (k : Nat) : (gapRow p s k).length = k := by simp [gapRow]
theorem gapPre_succ (p : Prog) (k : Nat) (h : k < p.shifts.length) : gapPre p (k + 1) = gapPre p k ++ gapRow p p.shifts[k] p.ros.length := by
  unfold gapPre; rw [List.take_succ_eq_append_getElem h, List.flatMap_append]; simp
theorem gapPre_length (p : Prog) (k : Nat) (h : k ≤ p.shifts.length) : (gapPre p k).length = k * p.ros.length := by
  induction k with
  | zero => simp [gapPre]
  | succ k ih => rw [gapPre_succ p k (by omega), List.length_append, ih (by omega), gapRow_length, Nat.succ_mul]
theorem minL_append (a : Int) (l m : List Int) : minL a (l ++ m) = minL (minL a l) m := by simp [minL]
theorem minL_snoc (a : Int) (l : List Int) (x : Int) : minL a (l ++ [x]) = min (minL a l) x := by simp [minL]
theorem minL_cons (a x : Int) (l : List Int) : minL a (x :: l) = minL (min a x) l := rfl
theorem minL_bound (a : Int) (l : List Int) (lo hi : Int) (ha : lo ≤ a ∧ a ≤ hi) (h : ∀ x ∈ l, lo ≤ x ∧ x ≤ hi) : lo ≤ minL a l ∧ minL a l ≤ hi := by
  induction l generalizing a with
  | nil => exact ha
  | cons x l ih =>
    rw [minL_cons]
    exact ih _ (by have := h x (by simp); omega) fun y hy => h y (by simp [hy])
theorem mul_diff (t x y : Int) (ht : 1 ≤ t ∧ t ≤ 16) (hx : 0 ≤ x ∧ x ≤ 10000) (hy : 0 ≤ y ∧ y ≤ 10000) : -160000 ≤ t * (x - y) ∧ t * (x - y) ≤ 160000 := by
  have h1 := mul_small x t hx ht
  have h2 := mul_small y t hy ht
  have : t * (x - y) = x * t - y * t := by rw [Int.mul_sub, Int.mul_comm, Int.mul_comm t y]
  omega
theorem gap_bound {p : Prog} (hp : BenchFacts p) : ∀ x ∈ gapPre p p.shifts.length, -200000 ≤ x ∧ x ≤ 200000 := by
  intro x hx
  unfold gapPre at hx
  rw [List.mem_flatMap] at hx
  obtain ⟨s, _, hx⟩ := hx
  unfold gapRow at hx
  rw [List.mem_map] at hx
  obtain ⟨a, _, rfl⟩ := hx
  have hl := lift_ok hp.ros hp.rub
  have h1 := mul_diff p.throw _ _ hp.throw (atR_height hl ((a : Int) - s)) (atR_height hl a)
  have h2 := hp.adv
  omega
set_option maxHeartbeats 1000000 in
theorem pf_Min (v : Value) (x : Int) (xs : List Int) (w : World) (hv : Ints w v (x :: xs)) :
    Calls Try.prog 74 #[v] w fun e w' => e = .returned (.int .i64 (minL x xs)) ∧ w = w' := by
  have hv0 := Lib.hid hv
  obtain ⟨A, c, rfl, hlc, hcm, _, hr⟩ := hv
  unfold maxLen at hcm
  obtain ⟨b, off, rfl, hb, hc⟩ := hr (by simp)
  have hc0 : w.cell? ⟨b, off, none⟩ = some (.int .i64 x) := hc 0 (by simp)
  have hcs : ∀ k (h : k < xs.length), w.cell? ⟨b, off + (k + 1), none⟩ = some (.int .i64 xs[k]) := fun k h => hc (k + 1) (Nat.succ_lt_succ h)
  have hN : (x :: xs).length = xs.length + 1 := rfl
  rw [hN] at hlc ⊢
  have i1 : (0 : Int) < ((xs.length + 1 : Nat) : Int) := by omega
  have i2 : ¬ (((xs.length + 1 : Nat) : Int) < 1) := by omega
  have hcs' := Lib.hid hcs
  have hc' := Lib.hid hc
  have hr' := Lib.hid hr
  have hN' := Lib.hid hN
  clear hN hr hc hcs
  go_enter Try.func74, Try.ntmps74
  go_wp2
  go_loop [4, 3] (fun i m => ∃ k : Nat, k ≤ xs.length ∧ i = .int .i64 ((k + 1 : Nat) : Int) ∧ m = .int .i64 (minL x (xs.take k))) (fun i _ => xs.length + 1 - (intOf i).toNat)
  case atStart => exact ⟨0, Nat.zero_le _, rfl, by simp [minL]⟩
  case round =>
    obtain ⟨k, hk, rfl, rfl⟩ := hrel
    by_cases hlt : k < xs.length
    · have hck := hcs'.out k hlt
      have hsuc : minL x (xs.take (k + 1)) = min (minL x (xs.take k)) xs[k] := by rw [List.take_succ_eq_append_getElem hlt, minL_snoc]
      generalize xs[k] = y at hck hsuc
      generalize minL x (xs.take k) = m at hsuc
      have hsuc' := Lib.hid hsuc
      clear hsuc
      have i3 : ((k + 1 : Nat) : Int) < ((xs.length + 1 : Nat) : Int) := by omega
      have i4 : (0 : Int) ≤ ((k + 1 : Nat) : Int) := by omega
      go_wp2
      go_round
      case rel => exact ⟨k + 1, by omega, by go_num, by rw [hsuc'.out]; show Value.int _ _ = _; congr 1; first | rfl | (split <;> omega) | omega⟩
      case measure => simp [intOf]; omega
    · obtain rfl : k = xs.length := by omega
      rw [List.take_of_length_le (Nat.le_refl _)]
      go_wp2
      go_ret
      exact ⟨rfl, rfl⟩
end Go.Proofs.Ytnboppombhibbaa
namespace Go.Proofs.Ytnboppombhibbaa
open Go.RowKit
set_option linter.unusedVariables false
set_option linter.unusedSimpArgs false
theorem atR_at {f : List Int} {i : Int} {q : Nat} (hq : i % (f.length : Int) = (q : Int)) (hl : q < f.length) : atR f i = f[q] := by
  have h1 : atR f i = atR f (q : Int) := atR_mod _ _ _ (by rw [hq]; exact (Int.emod_eq_of_lt (by omega) (by omega)).symm)
  rw [h1, atR_nat q hl]
set_option maxRecDepth 100000 in
set_option maxHeartbeats 4000000 in
theorem pf_r4_Gap_ok (v : Value) (p : Prog) (w : World) (hv : IsProg w v p) (hE : progE p = 0) :
    Calls Try.prog 36 #[v] w fun e w' => e = .returned (.tuple #[.int .i64 (gapI p), .int .i64 0]) ∧ Below w.heap.size w w' := by
  have hv0 := Lib.hid hv
  obtain ⟨v0, v1, v5, rfl, h0, h1, h5⟩ := hv
  have h5' := Lib.hid h5
  obtain ⟨A5, c5, rfl, hc5, hm5, _, _⟩ := id h5
  unfold maxLen at hm5
  clear h0 h1 h5
  have hp := benchFacts hE
  have hs1 := hp.sh1
  have hr0 := hp.ros0
  have hr1 := hp.ros1
  have hth := hp.throw
  have hadv := hp.adv
  have hlo := lift_ok hp.ros hp.rub
  have hlh := (rosOk_iff.1 hlo).2.2
  have hgb := gap_bound hp
  have hL0 := liftL_length p.ros p.rub
  have hrow := gapRow_succ p
  have hlift : ∀ W V, IsProg W V p → Calls Try.prog 52 #[V] W fun e w' => ∃ v', e = .returned v' ∧ Below W.heap.size W w' ∧ w'.ownsRow W.heap.size 3 1 v' (liftL p.ros p.rub).length ((liftL p.ros p.rub).map vint) := fun W V h => pf_r4_lift V p W h hp
  obtain ⟨L, hLe⟩ : ∃ L, liftL p.ros p.rub = L := ⟨_, rfl⟩
  rw [hLe] at hlh hL0 hlo
  simp only [hLe] at hlift hrow
  have hpre := gapPre_succ p
  have hE' := Lib.hid hE
  have hlift' := Lib.hid hlift
  have hrow' := Lib.hid hrow
  have hpre' := Lib.hid hpre
  have hgb' := Lib.hid hgb
  have hlo' := Lib.hid hlo
  have hLe' := Lib.hid hLe
  have hlh' := Lib.hid hlh
  clear hlh hLe hlo hgb hpre hrow hlift hE
  unfold gapI
  go_enter Try.func36, Try.ntmps36
  go_wp2_with (first | (go_at_call 23; ((with_reducible refine (pf_r4_Check _ p _ (hv0.out.below (alc1 _ _)) 0 hE'.out).mono ?_); rintro e w' ⟨rfl, hb⟩; have hbox := (Box.start w _).next hb; obtain ⟨p0, p1, p2, p3, p4, p5⟩ := hbox.prog; clear hb)) | (go_at_call 52; ((with_reducible refine (hlift'.out _ _ (hv0.out.below hbox.below)).mono ?_); rintro e w' ⟨vl, rfl, hb, ho⟩; have hbox2 := hbox.next hb; have hI := Lib.hid (own_ints ho); clear hb hbox ho p0 p1 p2 p3 p4 p5; obtain ⟨lA, lc, rfl, hlc, hlm, -, -⟩ := id hI.out; rw [hL0] at hI hlc)))
  have hbel := Lib.hid hbox2.below
  have hbx : Box w' w.heap.size (.cells #[v0, v1, .int .i64 p.start, .int .i64 p.throw, .int .i64 p.adv, .slice A5 p.shifts.length c5] 24) w' := ⟨Below.refl _ _, hbox2.block⟩
  unfold maxLen at hlm
  clear hbox2
  go_loopw [8, 7, 9] (fun i m _ wr => ∃ k : Nat, k ≤ p.shifts.length ∧ i = .int .i64 k ∧ m = .int .i64 (minL 1099511627776 (gapPre p k)) ∧ Box w' w.heap.size (.cells #[v0, v1, .int .i64 p.start, .int .i64 p.throw, .int .i64 p.adv, .slice A5 p.shifts.length c5] 24) wr) (fun i _ _ _ => p.shifts.length - (intOf i).toNat)
  case atStart => exact ⟨0, Nat.zero_le _, rfl, by simp [gapPre, minL], hbx⟩
  case round =>
    clear hbx
    obtain ⟨k, hk, rfl, rfl, hbx⟩ := hrel
    obtain ⟨p0, p1, p2, p3, p4, p5⟩ := hbx.prog
    by_cases hlt : k < p.shifts.length
    · have hM := Lib.hid (hpre'.out k hlt)
      have hxs := hp.sh k hlt
      obtain ⟨x, hx⟩ : ∃ x, p.shifts[k] = x := ⟨_, rfl⟩
      rw [hx] at hxs hM
      have hmb : Hid (∀ a, a ≤ p.ros.length → -200000 ≤ minL 1099511627776 (gapPre p k ++ gapRow p x a) ∧ minL 1099511627776 (gapPre p k ++ gapRow p x a) ≤ 1099511627776) := Lib.hid fun a ha => minL_bound _ _ _ _ (by omega) fun y hy => by
        have hsub : y ∈ gapPre p p.shifts.length := by
          have e1 : gapPre p p.shifts.length = gapPre p (k + 1) ++ (p.shifts.drop (k + 1)).flatMap fun s => gapRow p s p.ros.length := by
            unfold gapPre
            rw [List.take_of_length_le (Nat.le_refl _), ← List.flatMap_append, List.take_append_drop]
          rw [e1, hM.out, List.mem_append, List.mem_append]
          rw [List.mem_append] at hy
          rcases hy with hy | hy
          · exact .inl (.inl hy)
          · refine .inl (.inr ?_)
            unfold gapRow at hy ⊢
            rw [List.mem_map] at hy ⊢
            obtain ⟨j, hj, e⟩ := hy
            exact ⟨j, by rw [List.mem_range] at hj ⊢; omega, e⟩
        have := hgb'.out y hsub
        omega
      have hx' := Lib.hid hx
      clear hx
      go_wp2
      rename World => w0
      go_loopw [9, 7] (fun i m wi => ∃ a : Nat, a ≤ p.ros.length ∧ i = .int .i64 a ∧ m = .int .i64 (minL 1099511627776 (gapPre p k ++ gapRow p x a)) ∧ Box w' w.heap.size (.cells #[v0, v1, .int .i64 p.start, .int .i64 p.throw, .int .i64 p.adv, .slice A5 p.shifts.length c5] 24) wi) (fun i _ _ => p.ros.length - (intOf i).toNat)
      case atStart => exact ⟨0, Nat.zero_le _, rfl, by simp [gapRow], hbx⟩
      case round =>
        clear hbx p0 p1 p2 p3 p4 p5
        obtain ⟨a, ha, rfl, rfl, hbx⟩ := hrel
        obtain ⟨p0, p1, p2, p3, p4, p5⟩ := hbx.prog
        by_cases hal : a < p.ros.length
        · obtain ⟨sb, so, hA, hbz, hck⟩ := (h5'.out.below (hbel.out.trans (hbx.below.mono hbel.out.size))).look hlt
          subst hA
          rw [hx'.out] at hck
          have haL : a < L.length := by omega
          obtain ⟨lb, lo, hA, hlz, hla⟩ := (hI.out.below hbx.below).look haL
          subst hA
          have hq0 := Int.emod_nonneg ((a : Int) - x) (show (p.ros.length : Int) ≠ 0 by omega)
          have hq1 := Int.emod_lt_of_pos ((a : Int) - x) (show (0 : Int) < (p.ros.length : Int) by omega)
          obtain ⟨q, hq⟩ : ∃ q : Nat, ((a : Int) - x) % (p.ros.length : Int) = (q : Int) := ⟨_, (Int.toNat_of_nonneg hq0).symm⟩
          have hqL : q < L.length := by omega
          obtain ⟨lb2, lo2, hA2, hlz2, hlq⟩ := (hI.out.below hbx.below).look hqL
          injection hA2 with hA2
          injection hA2 with e1 e2
          subst e1 e2
          have hsuc := hrow'.out x a
          rw [atR_at (f := L) (i := (a : Int) - x) (q := q) (by rw [hL0]; exact hq) hqL, atR_nat a haL] at hsuc
          have hm0 := hmb.out a (by omega)
          have hms : minL 1099511627776 (gapPre p k ++ gapRow p x (a + 1)) = min (minL 1099511627776 (gapPre p k ++ gapRow p x a)) (p.adv + p.throw * (L[q] - L[a])) := by rw [hsuc, ← List.append_assoc, minL_snoc]
          have hy1 := hlh'.out q hqL
          have hy2 := hlh'.out a haL
          generalize L[q] = y at hlq hms hy1
          generalize L[a] = z at hla hms hy2
          have hmd := mul_diff p.throw y z hth hy1 hy2
          have hcall : ∀ W : World, Calls Try.prog 71 #[.int .i64 ((a : Int) - x), .int .i64 p.ros.length] W fun e w' => e = .returned (.int .i64 q) ∧ W = w' := fun W => by
            have h := pf_r3_Around ((a : Int) - x) p.ros.length W (by omega) (by omega) (by unfold Mid; omega)
            rw [hq] at h
            exact h
          generalize minL 1099511627776 (gapPre p k ++ gapRow p x a) = m at hm0 hms
          have i1 : (0 : Int) ≤ (k : Int) := by omega
          have i2 : (k : Int) < (p.shifts.length : Int) := by omega
          have i3 : (0 : Int) ≤ (a : Int) := by omega
          have i4 : (a : Int) < (p.ros.length : Int) := by omega
          have i5 : (0 : Int) ≤ (q : Int) := by omega
          have i6 : (q : Int) < (p.ros.length : Int) := by omega
          have j1 : IntKind.i64.wrap ((a : Int) - x) = (a : Int) - x := IntWalk.i64_in _ (by omega)
          have j2 : IntKind.i64.wrap (y - z) = y - z := IntWalk.i64_in _ (by omega)
          have j3 : IntKind.i64.wrap (p.throw * (y - z)) = p.throw * (y - z) := IntWalk.i64_in _ (by omega)
          have j4 : IntKind.i64.wrap (p.adv + p.throw * (y - z)) = p.adv + p.throw * (y - z) := IntWalk.i64_in _ (by omega)
          have hcall' := Lib.hid hcall
          have hms' := Lib.hid hms
          have hq' := Lib.hid hq
          have hsuc' := Lib.hid hsuc
          clear hsuc hq hms hcall
          go_wp2
          go_quiet (first | (go_at_call 71; exact quiet_same' (hcall'.out _)))
          go_wp2
          go_roundw
          case rel => exact ⟨a + 1, by omega, by go_num, by rw [hms'.out]; show Value.int _ _ = _; congr 1; first | rfl | (split <;> omega) | omega, hbx.drewN _⟩
          case measure => simp [intOf]; omega
        · obtain rfl : a = p.ros.length := by omega
          go_wp2
          go_roundw
          case rel => exact ⟨k + 1, by omega, by go_num, by rw [hM.out], hbx⟩
          case measure => simp [intOf]; omega
    · obtain rfl : k = p.shifts.length := by omega
      go_wp2
      go_ret2
      exact ⟨rfl, hbel.out.trans (hbx.below.mono hbel.out.size)⟩
set_option maxHeartbeats 1000000 in
theorem pf_r4_Gap (v : Value) (p : Prog) (w : World) (hv : IsProg w v p) (E : Int) (hE : progE p = E) :
    Calls Try.prog 36 #[v] w fun e w' => e = .returned (.tuple #[.int .i64 (onOkI E (gapI p)), .int .i64 E]) ∧ Below w.heap.size w w' := by
  by_cases hE0 : E = 0
  · subst hE0
    exact pf_r4_Gap_ok v p w hv hE
  · have hv0 := Lib.hid hv
    obtain ⟨v0, v1, v5, rfl, h0, h1, h5⟩ := hv
    clear h0 h1 h5
    have hne : (E != 0) = true := by simpa using hE0
    rw [onOkI_ne hE0]
    have hE' := Lib.hid hE
    have hE0' := Lib.hid hE0
    clear hE0 hE
    go_enter Try.func36, Try.ntmps36
    go_wp2_with (first | (go_at_call 23; ((with_reducible refine (pf_r4_Check _ p _ (hv0.out.below (alc1 _ _)) E hE'.out).mono ?_); rintro e w' ⟨rfl, hb1⟩)))
    go_ret2
    exact ⟨rfl, ((Box.start w _).next hb1).below⟩
end Go.Proofs.Ytnboppombhibbaa
namespace Go.Proofs.Ytnboppombhibbaa
open Go.RowKit
set_option linter.unusedVariables false
set_option linter.unusedSimpArgs false
attribute [local go_sem ↓] Go.wp_at_zero Go.wp_at_succ
theorem gap_min {p : Prog} (hp : BenchFacts p) {y : Int} {ys : List Int} (h : gapPre p p.shifts.length = y :: ys) : minL y ys = gapI p := by
  unfold gapI
  have hb := gap_bound hp
  rw [h] at hb ⊢
  have := hb y (by simp)
  rw [minL_cons, show min 1099511627776 y = y by omega]
set_option maxRecDepth 100000 in
set_option maxHeartbeats 4000000 in
theorem pf_pat_Gap_ok (v : Value) (p : Prog) (w : World) (hv : IsProg w v p) (hE : progE p = 0) :
    Calls Try.prog 35 #[v] w fun e w' => e = .returned (.tuple #[.int .i64 (gapI p), .int .i64 0]) ∧ Below w.heap.size w w' := by
  have hv0 := Lib.hid hv
  obtain ⟨v0, v1, v5, rfl, h0, h1, h5⟩ := hv
  have h5' := Lib.hid h5
  obtain ⟨A5, c5, rfl, hc5, hm5, _, _⟩ := id h5
  unfold maxLen at hm5
  clear h0 h1 h5
  have hp := benchFacts hE
  have hs0 := hp.sh0
  have hs1 := hp.sh1
  have hr0 := hp.ros0
  have hr1 := hp.ros1
  have hth := hp.throw
  have hadv := hp.adv
  have hlo := lift_ok hp.ros hp.rub
  have hlh := (rosOk_iff.1 hlo).2.2
  have hL0 := liftL_length p.ros p.rub
  have hrow := gapRow_succ p
  have hpre := gapPre_succ p
  have hlenp := gapPre_length p
  obtain ⟨y0, ys0, hy0⟩ : ∃ y ys, gapPre p p.shifts.length = y :: ys := by
    have h := gapPre_length p p.shifts.length (Nat.le_refl _)
    cases hg : gapPre p p.shifts.length with
    | nil => rw [hg] at h; have := Nat.mul_pos hs0 (show 0 < p.ros.length by omega); simp at h; omega
    | cons y ys => exact ⟨y, ys, rfl⟩
  have hmin := Lib.hid (gap_min hp hy0)
  obtain ⟨L, hLe⟩ : ∃ L, liftL p.ros p.rub = L := ⟨_, rfl⟩
  rw [hLe] at hlh hL0 hlo
  simp only [hLe] at hrow
  have hE' := Lib.hid hE
  have hrow' := Lib.hid hrow
  have hpre' := Lib.hid hpre
  have hlo' := Lib.hid hlo
  have hlh' := Lib.hid hlh
  have hlenp' := Lib.hid hlenp
  have hy0' := Lib.hid hy0
  clear hy0 hlenp hlh hlo hpre hrow hE
  go_enter Try.func35, Try.ntmps35
  go_wp2_with (first | (go_at_call 51; ((with_reducible refine (pf_mounted _ p _ (hv0.out.below (alc1 _ _)) 0 hE'.out).mono ?_); rintro e w' ⟨vb, rfl, hb1, -, hok⟩; obtain ⟨b, rfl, hbb, hbench⟩ := hok rfl; have hbox := (Box.start w _).next hb1; have hbench' := Lib.hid hbench; have hblt := hbench.lt; obtain ⟨p0, p1, p2, p3, p4, p5⟩ := hbox.prog; clear hb1 hok hbb hbench)))
  have hbel := Lib.hid hbox.below
  have hblk := Lib.hid hbox.block
  have hwlt := hbox.lt
  obtain ⟨x5, xl, -, hl, -, -, -, -, c6, c7, -, -⟩ := hbench'.out.cells
  rw [hLe] at hl
  obtain ⟨lA, lc, rfl, hlc, hlm, -, -⟩ := id hl
  rw [hL0] at c6 hlc
  unfold maxLen at hlm
  have hLe' := Lib.hid hLe
  have hl' := Lib.hid hl
  have c6' := Lib.hid c6
  have c7' := Lib.hid c7
  clear c7 c6 hl hLe
  clear p0 p1 p2 p3 p4 p5 hbox
  obtain ⟨n0, hn0⟩ : ∃ n0, w'.heap.size = n0 := ⟨_, rfl⟩
  rw [hn0] at hblt hwlt
  have hn0' := Lib.hid hn0
  clear hn0
  go_loopw [22, 6] (fun i l wr => ∃ k : Nat, k ≤ p.shifts.length ∧ i = .int .i64 k ∧ Hid (Below n0 w' wr) ∧ n0 ≤ wr.heap.size ∧ Hid (wr.ownsRow n0 3 1 l (gapPre p k).length ((gapPre p k).map vint))) (fun i _ _ => p.shifts.length - (intOf i).toNat)
  case atStart => exact ⟨0, Nat.zero_le _, rfl, Lib.hid (Below.refl _ _), by rw [hn0'.out]; exact Nat.le_refl _, Lib.hid (World.ownsRow_nil _ _ _ _)⟩
  case round =>
    obtain ⟨k, hk, rfl, hbw, hwn, hown⟩ := hrel
    by_cases hlt : k < p.shifts.length
    · have hM := Lib.hid (hpre'.out k hlt)
      have hxs := hp.sh k hlt
      obtain ⟨sb, so, hA, hbz, hck⟩ := (h5'.out.below hbel.out).look hlt
      subst hA
      replace hck := (hbw.out.cell (p := ⟨sb, so + k, none⟩) (by rw [← hn0'.out]; exact hbz)).trans hck
      obtain ⟨x, hx⟩ : ∃ x, p.shifts[k] = x := ⟨_, rfl⟩
      rw [hx] at hxs hM hck
      have d6 := (hbw.out.cell (p := ⟨b, 6, none⟩) hblt).trans c6'.out
      have hlk := hlenp'.out k hk
      have hkn : k * p.ros.length ≤ 12 * 96 := Nat.mul_le_mul (by omega) hr1
      have hx' := Lib.hid hx
      clear hx
      go_wp2
      rename World => w0
      go_loopw [31, 6] (fun i l wi => ∃ a : Nat, a ≤ p.ros.length ∧ i = .int .i64 a ∧ Hid (Below n0 w' wi) ∧ n0 ≤ wi.heap.size ∧ Hid (wi.ownsRow n0 3 1 l (gapPre p k ++ gapRow p x a).length ((gapPre p k ++ gapRow p x a).map vint))) (fun i _ _ => p.ros.length - (intOf i).toNat)
      case atStart => exact ⟨0, Nat.zero_le _, rfl, hbw, hwn, Lib.hid (by simpa [gapRow] using hown.out)⟩
      case round =>
        clear hbw hwn hown hck d6
        obtain ⟨a, ha, rfl, hbw, hwn, hown⟩ := hrel
        by_cases hal : a < p.ros.length
        · have haL : a < L.length := by omega
          obtain ⟨lb, lo, hA, hlz, hla⟩ := hl'.out.look haL
          subst hA
          have hq0 := Int.emod_nonneg ((a : Int) - x) (show (p.ros.length : Int) ≠ 0 by omega)
          have hq1 := Int.emod_lt_of_pos ((a : Int) - x) (show (0 : Int) < (p.ros.length : Int) by omega)
          obtain ⟨q, hq⟩ : ∃ q : Nat, ((a : Int) - x) % (p.ros.length : Int) = (q : Int) := ⟨_, (Int.toNat_of_nonneg hq0).symm⟩
          have hqL : q < L.length := by omega
          obtain ⟨lb2, lo2, hA2, hlz2, hlq⟩ := hl'.out.look hqL
          injection hA2 with hA2
          injection hA2 with e1 e2
          subst e1 e2
          rw [hn0'.out] at hlz
          have hsuc := hrow'.out x a
          rw [atR_at (f := L) (i := (a : Int) - x) (q := q) (by rw [hL0]; exact hq) hqL, atR_nat a haL] at hsuc
          have hy1 := hlh'.out q hqL
          have hy2 := hlh'.out a haL
          have hlr := gapRow_length p x a
          replace hla := (hbw.out.cell (p := ⟨lb, lo + a, none⟩) hlz).trans hla
          generalize L[q] = y at hlq hsuc hy1
          generalize L[a] = z at hla hsuc hy2
          have hmd := mul_diff p.throw y z hth hy1 hy2
          have hcall : ∀ W : World, Calls Try.prog 57 #[.int .i64 ((a : Int) - x), .int .i64 p.ros.length] W fun e w' => e = .returned (.int .i64 q) ∧ W = w' := fun W => by
            have h := pf_pat_modulo ((a : Int) - x) p.ros.length W (by omega) (by omega) (by unfold Mid; omega)
            rw [hq] at h
            exact h
          have hS : ∀ W, Below n0 w' W → W.cell? ⟨w.heap.size, 3, none⟩ = some (.int .i64 p.throw) ∧ W.cell? ⟨w.heap.size, 4, none⟩ = some (.int .i64 p.adv) ∧ W.cell? ⟨b, 6, none⟩ = some (.slice (some ⟨lb, lo, none⟩) p.ros.length lc) ∧ W.cell? ⟨b, 7, none⟩ = some (.int .i64 p.ros.length) ∧ W.cell? ⟨lb, lo + q, none⟩ = some (.int .i64 y) := fun W h => by
            have e := prog_cells ((h.block w.heap.size hwlt).trans hblk.out)
            exact ⟨e.2.2.2.1, e.2.2.2.2.1, (h.cell (p := ⟨b, 6, none⟩) hblt).trans c6'.out, (h.cell (p := ⟨b, 7, none⟩) hblt).trans c7'.out, (h.cell (p := ⟨lb, lo + q, none⟩) hlz).trans hlq⟩
          obtain ⟨s1, s2, s3, s4, s5⟩ := hS wr hbw.out
          have i3 : (0 : Int) ≤ (a : Int) := by omega
          have i4 : (a : Int) < (p.ros.length : Int) := by omega
          have i5 : (0 : Int) ≤ (q : Int) := by omega
          have i6 : (q : Int) < (p.ros.length : Int) := by omega
          have j1 : IntKind.i64.wrap ((a : Int) - x) = (a : Int) - x := IntWalk.i64_in _ (by omega)
          have j2 : IntKind.i64.wrap (y - z) = y - z := IntWalk.i64_in _ (by omega)
          have j3 : IntKind.i64.wrap (p.throw * (y - z)) = p.throw * (y - z) := IntWalk.i64_in _ (by omega)
          have j4 : IntKind.i64.wrap (p.adv + p.throw * (y - z)) = p.adv + p.throw * (y - z) := IntWalk.i64_in _ (by omega)
          have hwn2 : w.heap.size < wr.heap.size := by omega
          have hbn2 : b < wr.heap.size := by omega
          have hln2 : lb < wr.heap.size := by omega
          have hGl : (gapPre p k ++ gapRow p x a).length ≤ 2000 := by rw [List.length_append, hlk, hlr]; omega
          have hG2 : gapPre p k ++ gapRow p x (a + 1) = (gapPre p k ++ gapRow p x a) ++ [p.adv + p.throw * (y - z)] := by rw [hsuc, List.append_assoc]
          generalize gapPre p k ++ gapRow p x a = G at hown hGl hG2
          have hcall' := Lib.hid hcall
          have hq' := Lib.hid hq
          have hsuc' := Lib.hid hsuc
          have hS' := Lib.hid hS
          have hlq' := Lib.hid hlq
          have hG2' := Lib.hid hG2
          clear hG2 hlq hS hsuc hq hcall
          go_wp2
          go_region_held3 (fun w' => w'.cell? ⟨w.heap.size, 3, none⟩ = some (.int .i64 p.throw) ∧ w'.cell? ⟨w.heap.size, 4, none⟩ = some (.int .i64 p.adv) ∧ w'.cell? ⟨b, 6, none⟩ = some (.slice (some ⟨lb, lo, none⟩) p.ros.length lc) ∧ w'.cell? ⟨b, 7, none⟩ = some (.int .i64 p.ros.length) ∧ w'.cell? ⟨lb, lo + q, none⟩ = some (.int .i64 y)) (go_keep) (first | (go_at_call 57; refine (hcall'.out _).mono ?_; rintro e w' ⟨rfl, rfl⟩) | (refine step_appI rfl (.tmp 36) (.tmp 59) 22 (by rfl) n0 3 elemInt u6 G (by rfl) (hown.out.alloc _) (.slice (some ⟨_, 0, none⟩) 1 1) [p.adv + p.throw * (y - z)] (by rfl) (by first | exact one_newD _ _ _ | exact one_newI _ _ _) (by simp; omega) (by first | omega | (simp; omega)) ?_; intro v2 w2 ho2 hb2 hg2 _; have hB2 : Below n0 w' w2 := (by first | exact ((hbw.out.alloc hwn _).drew).trans hb2 | exact (hbw.out.alloc hwn _).trans hb2); obtain ⟨t1, t2, t3, t4, t5⟩ := hS'.out _ hB2; have ho2' := Lib.hid ho2; clear ho2 hg2))
          have hn2 := hB2.size
          go_wp2
          go_roundw
          case rel => exact ⟨a + 1, by omega, by go_num, Lib.hid hB2, by rw [hn0'.out] at hn2; exact hn2, Lib.hid (by rw [hG2'.out]; simpa using ho2'.out)⟩
          case measure => simp [intOf]; omega
        · obtain rfl : a = p.ros.length := by omega
          go_wp2
          go_roundw
          case rel => exact ⟨k + 1, by omega, by go_num, hbw, hwn, Lib.hid (by rw [hM.out]; exact hown.out)⟩
          case measure => simp [intOf]; omega
    · obtain rfl : k = p.shifts.length := by omega
      have hI := own_ints hown.out
      rw [hy0'.out] at hI
      have hI' := Lib.hid hI
      clear hI hown
      go_wp2_with (first | (go_at_call 74; ((with_reducible refine (pf_Min _ y0 ys0 _ hI'.out).mono ?_); rintro e w' ⟨rfl, rfl⟩; rw [hmin.out])))
      go_ret2
      exact ⟨rfl, hbel.out.trans (hbw.out.mono (by omega))⟩
set_option maxHeartbeats 1000000 in
theorem pf_pat_Gap (v : Value) (p : Prog) (w : World) (hv : IsProg w v p) (E : Int) (hE : progE p = E) :
    Calls Try.prog 35 #[v] w fun e w' => e = .returned (.tuple #[.int .i64 (onOkI E (gapI p)), .int .i64 E]) ∧ Below w.heap.size w w' := by
  by_cases hE0 : E = 0
  · subst hE0
    exact pf_pat_Gap_ok v p w hv hE
  · have hv0 := Lib.hid hv
    obtain ⟨v0, v1, v5, rfl, h0, h1, h5⟩ := hv
    clear h0 h1 h5
    have hne : (E != 0) = true := by simpa using hE0
    rw [onOkI_ne hE0]
    have hE' := Lib.hid hE
    have hE0' := Lib.hid hE0
    clear hE0 hE
    go_enter Try.func35, Try.ntmps35
    go_wp2_with (first | (go_at_call 51; ((with_reducible refine (pf_mounted _ p _ (hv0.out.below (alc1 _ _)) E hE'.out).mono ?_); rintro e w' ⟨vb, rfl, hb1, hn1, -⟩; have hn2 := hn1 hE0'.out; subst hn2; clear hn1)))
    go_ret2
    exact ⟨rfl, ((Box.start w _).next hb1).below⟩
end Go.Proofs.Ytnboppombhibbaa
