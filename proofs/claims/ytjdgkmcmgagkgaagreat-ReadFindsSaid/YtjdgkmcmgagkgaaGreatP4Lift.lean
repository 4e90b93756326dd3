/- Plain laws of motifs: the least number of shifts that come again, modulo the period; after how many cuts a pattern closes. The reference of layer 4: Check, Lift. The reference of layer 4: Phases. The reference of layer 4: Shape, Cut. The reference of layer 4: Cut. pattern.Lift, pattern.Cut. -/
import Derived.Test.YtjdgkmcmgagkgaaGreatPatCheck
import Derived.Test.YtjdgkmcmgagkgaaGreatBoxKit
import Derived.StillTailTactics
import Derived.Deep.DrawnRows
namespace Go.Proofs.YtjdgkmcmgagkgaaGreat
set_option maxRecDepth 100000
set_option maxHeartbeats 4000000
set_option linter.unusedVariables false
theorem exists_least (f : List Int) (h : 0 < f.length) : ∃ s, IsLeast f s := by
 have hall : ∀ n : Nat, (∃ s : Nat, 1 ≤ s ∧ s ≤ n ∧ Shifts f s) → ∃ s, IsLeast f s := by
  intro n
  induction n with
  | zero => rintro ⟨s, h1, h2, _⟩; omega
  | succ n ih =>
   rintro ⟨s, h1, h2, h3⟩
   by_cases hx : ∃ s : Nat, 1 ≤ s ∧ s ≤ n ∧ Shifts f s
   ·exact ih hx
   ·by_cases hs : s ≤ n
    ·exact absurd ⟨s, h1, hs, h3⟩ hx
    ·exact ⟨s, h1, h3, fun j hj1 hj2 hj3 => hx ⟨j, hj1, by omega, hj3⟩⟩
 exact hall f.length ⟨f.length, h, Nat.le_refl _, Shifts.len f⟩
theorem period_least (f : List Int) (h : 0 < f.length) : IsLeast f (periodL f) := by
 obtain ⟨s, hs⟩ := exists_least f h
 rw [hs.period h]; exact hs
theorem period_dvd (f : List Int) (h : 0 < f.length) : periodL f ∣ f.length := by
 have := ((period_least f h).dvd (f.length : Int)).1 (Shifts.len f)
 exact Int.natCast_dvd_natCast.1 this
def per (p : Prog) : Nat := periodL (liftL p.ros p.rub)
def modS (p : Prog) : List Int := p.shifts.map (· % (per p : Int))
def motifN (p : Prog) : Nat := periodL (modS p)
def turnI (p : Prog) : Int := phaseI p (motifN p) % (per p : Int)
def closeN (p : Prog) : Nat := motifN p * (per p / Nat.gcd (per p) (turnI p).toNat)
theorem modS_length (p : Prog) : (modS p).length = p.shifts.length := by simp [modS]
theorem per_pos {p : Prog} (hp : BenchFacts p) : 1 ≤ per p ∧ per p ≤ p.ros.length ∧ per p ∣ p.ros.length := by
 have h0 := hp.ros0
 have hl := liftL_length p.ros p.rub
 have h1 := period_least (liftL p.ros p.rub) (by omega)
 have h2 := period_dvd (liftL p.ros p.rub) (by omega)
 rw [hl] at h2
 exact ⟨h1.pos, Nat.le_of_dvd (by omega) h2, h2⟩
theorem motif_least {p : Prog} (hp : BenchFacts p) : IsLeast (modS p) (motifN p) := period_least _ (by rw [modS_length]; exact hp.sh0)
theorem motif_dvd {p : Prog} (hp : BenchFacts p) : motifN p ∣ p.shifts.length := by
 have := period_dvd (modS p) (by rw [modS_length]; exact hp.sh0)
 rwa [modS_length] at this
theorem motif_le {p : Prog} (hp : BenchFacts p) : 1 ≤ motifN p ∧ motifN p ≤ p.shifts.length := ⟨(motif_least hp).pos, Nat.le_of_dvd hp.sh0 (motif_dvd hp)⟩
theorem turn_bound {p : Prog} (hp : BenchFacts p) : 0 ≤ turnI p ∧ turnI p < per p := by
 have h := (per_pos hp).1
 exact ⟨Int.emod_nonneg _ (by omega), Int.emod_lt_of_pos _ (by omega)⟩
theorem atR_modS (p : Prog) (i : Nat) (h : i < p.shifts.length) : atR (modS p) (i : Int) = p.shifts[i] % (per p : Int) := by
 rw [atR_nat i (by rw [modS_length]; exact h)]
 simp [modS]
def repsB (p : Prog) (m : Nat) : Bool := (List.range p.shifts.length).all fun i => decide (i < m) || decide ((p.shifts.getD i 0 - p.shifts.getD (i - m) 0) % (per p : Int) = 0)
theorem repsB_iff (p : Prog) (m : Nat) : repsB p m = true ↔ ∀ i (h : i < p.shifts.length), m ≤ i → atR (modS p) ((i : Int) - m) = atR (modS p) i := by
 unfold repsB
 simp only [List.all_eq_true, List.mem_range, Bool.or_eq_true, decide_eq_true_eq]
 have key : ∀ i (h : i < p.shifts.length), m ≤ i → ((p.shifts.getD i 0 - p.shifts.getD (i - m) 0) % (per p : Int) = 0 ↔ atR (modS p) ((i : Int) - m) = atR (modS p) i) := fun i h hm => by
  rw [show (i : Int) - m = ((i - m : Nat) : Int) by omega, atR_modS p i h, atR_modS p (i - m) (by omega), ← Int.emod_eq_emod_iff_emod_sub_eq_zero]
  simp only [List.getD_eq_getElem?_getD, List.getElem?_eq_getElem h, List.getElem?_eq_getElem (show i - m < p.shifts.length by omega), Option.getD_some]
  exact eq_comm
 constructor
 ·intro h i hi hm
  rcases h i hi with h1 | h1
  ·omega
  ·exact (key i hi hm).1 h1
 ·intro h i hi
  by_cases hm : i < m
  ·exact .inl hm
  ·exact .inr ((key i hi (by omega)).2 (h i hi (by omega)))
theorem reps_shifts {p : Prog} {m : Nat} (h1 : 1 ≤ m) (hd : m ∣ p.shifts.length) (h0 : 1 ≤ p.shifts.length) : repsB p m = true ↔ Shifts (modS p) m := by
 rw [repsB_iff]
 constructor
 ·intro h
  obtain ⟨q, hq⟩ := hd
  have hstep : ∀ j r : Nat, r < m → r + m * j < p.shifts.length → atR (modS p) ((r + m * j : Nat) : Int) = atR (modS p) r := by
   intro j
   induction j with
   | zero => intro r _ _; simp
   | succ j ih =>
    intro r hr hlt
    have e : m * (j + 1) = m * j + m := by rw [Nat.mul_add, Nat.mul_one]
    have := h (r + m * (j + 1)) hlt (by omega)
    rw [← this, show ((r + m * (j + 1) : Nat) : Int) - m = ((r + m * j : Nat) : Int) by omega]
    exact ih r hr (by omega)
  intro i
  have hl : ((modS p).length : Int) = p.shifts.length := by rw [modS_length]
  have hr0 := Int.emod_nonneg i (show (p.shifts.length : Int) ≠ 0 by omega)
  have hr1 := Int.emod_lt_of_pos i (show (0 : Int) < (p.shifts.length : Int) by omega)
  obtain ⟨r, hr⟩ : ∃ r : Nat, i % (p.shifts.length : Int) = (r : Int) := ⟨_, (Int.toNat_of_nonneg hr0).symm⟩
  have hrl : r < p.shifts.length := by omega
  have e1 : atR (modS p) i = atR (modS p) r := atR_mod _ _ _ (by rw [hl, hr]; exact (Int.emod_eq_of_lt (by omega) (by omega)).symm)
  have e2 : atR (modS p) (i - m) = atR (modS p) ((r : Int) - m) := atR_mod _ _ _ (by rw [hl, ← hr, Int.emod_sub_emod])
  rw [e1, e2]
  by_cases hm : m ≤ r
  ·exact h r hrl hm
  ·have hqp : 1 ≤ q := by
    rcases Nat.eq_zero_or_pos q with h | h
    ·rw [h, Nat.mul_zero] at hq; omega
    ·exact h
   have e3 : atR (modS p) ((r : Int) - m) = atR (modS p) ((r + m * (q - 1) : Nat) : Int) := by
    refine atR_mod _ _ _ ?_
    rw [hl, hq]
    have e : m * q = m * (q - 1) + m := by rw [Nat.mul_sub, Nat.mul_one, Nat.sub_add_cancel (Nat.le_mul_of_pos_right m hqp)]
    rw [show ((r + m * (q - 1) : Nat) : Int) = ((r : Int) - m) + ((m * q : Nat) : Int) by omega, Int.natCast_mul]
    have hz := Int.add_mul_emod_self_left ((r : Int) - m) ((m : Int) * q) 1
    rw [Int.mul_one] at hz
    exact hz.symm
   rw [e3]
   have e : m * q = m * (q - 1) + m := by rw [Nat.mul_sub, Nat.mul_one, Nat.sub_add_cancel (Nat.le_mul_of_pos_right m hqp)]
   exact hstep (q - 1) r (by omega) (by omega)
 ·intro h i hi hm
  exact h i
theorem motif_found {p : Prog} (hp : BenchFacts p) {k : Nat} (h1 : 1 ≤ k) (hd : p.shifts.length % k = 0) (hr : repsB p k = true) (hn : ∀ j, 1 ≤ j → j < k → ¬ (p.shifts.length % j = 0 ∧ repsB p j = true)) : k = motifN p := by
 have hs := (reps_shifts h1 (Nat.dvd_of_mod_eq_zero hd) hp.sh0).1 hr
 have hm := motif_least hp
 have hle : motifN p ≤ k := by
  rcases Nat.lt_or_ge k (motifN p) with h | h
  ·exact absurd hs (hm.least k h1 h)
  ·exact h
 rcases Nat.lt_or_ge (motifN p) k with h | h
 ·exact absurd ⟨Nat.mod_eq_zero_of_dvd (motif_dvd hp), (reps_shifts hm.pos (motif_dvd hp) hp.sh0).2 hm.sh⟩ (hn _ hm.pos h)
 ·omega
theorem motif_reps {p : Prog} (hp : BenchFacts p) : p.shifts.length % motifN p = 0 ∧ repsB p (motifN p) = true :=
 ⟨Nat.mod_eq_zero_of_dvd (motif_dvd hp), (reps_shifts (motif_least hp).pos (motif_dvd hp) hp.sh0).2 (motif_least hp).sh⟩
def cycB (p : Prog) (m k : Nat) : Bool := (List.range k).all fun i => decide (p.shifts.getD i 0 % (per p : Int) = p.shifts.getD ((i + m) % p.shifts.length) 0 % (per p : Int))
theorem cycB_succ (p : Prog) (m k : Nat) : cycB p m (k + 1) = (cycB p m k && decide (p.shifts.getD k 0 % (per p : Int) = p.shifts.getD ((k + m) % p.shifts.length) 0 % (per p : Int))) := by
 unfold cycB; rw [List.range_succ, List.all_append]; simp
theorem cyc_shifts {p : Prog} {m : Nat} (h0 : 1 ≤ p.shifts.length) : cycB p m p.shifts.length = true ↔ Shifts (modS p) m := by
 have hl : ((modS p).length : Int) = p.shifts.length := by rw [modS_length]
 have key : ∀ i, i < p.shifts.length → (p.shifts.getD i 0 % (per p : Int) = p.shifts.getD ((i + m) % p.shifts.length) 0 % (per p : Int) ↔ atR (modS p) i = atR (modS p) ((i : Int) + m)) := fun i h => by
  have hlt : (i + m) % p.shifts.length < p.shifts.length := Nat.mod_lt _ (by omega)
  have e : atR (modS p) ((i : Int) + m) = atR (modS p) (((i + m) % p.shifts.length : Nat) : Int) := atR_mod _ _ _ (by rw [hl]; simp)
  rw [e, atR_modS p i h, atR_modS p _ hlt]
  simp only [List.getD_eq_getElem?_getD, List.getElem?_eq_getElem h, List.getElem?_eq_getElem hlt, Option.getD_some]
 unfold cycB
 simp only [List.all_eq_true, List.mem_range, decide_eq_true_eq]
 constructor
 ·intro h i
  have hr0 := Int.emod_nonneg (i - m) (show (p.shifts.length : Int) ≠ 0 by omega)
  have hr1 := Int.emod_lt_of_pos (i - m) (show (0 : Int) < (p.shifts.length : Int) by omega)
  obtain ⟨r, hr⟩ : ∃ r : Nat, (i - m) % (p.shifts.length : Int) = (r : Int) := ⟨_, (Int.toNat_of_nonneg hr0).symm⟩
  have e1 : atR (modS p) (i - m) = atR (modS p) r := atR_mod _ _ _ (by rw [hl, hr]; exact (Int.emod_eq_of_lt (by omega) (by omega)).symm)
  have e2 : atR (modS p) i = atR (modS p) ((r : Int) + m) := atR_mod _ _ _ (by rw [hl, ← hr, Int.emod_add_emod]; congr 1; omega)
  rw [e1, e2]
  exact (key r (by omega)).1 (h r (by omega))
 ·intro h i hi
  refine (key i hi).2 ?_
  have := h ((i : Int) + m)
  rwa [show (i : Int) + m - m = i by omega] at this
theorem refMotif_hit {p : Prog} (hp : BenchFacts p) {k : Nat} (h1 : 1 ≤ k) (hc : cycB p k p.shifts.length = true) (hn : ∀ j, 1 ≤ j → j < k → cycB p j p.shifts.length = false) : k = motifN p := by
 have hm := motif_least hp
 have hs := (cyc_shifts hp.sh0).1 hc
 rcases Nat.lt_trichotomy k (motifN p) with h | h | h
 ·exact absurd hs (hm.least k h1 h)
 ·exact h
 ·have := hn _ hm.pos h
  rw [(cyc_shifts hp.sh0).2 hm.sh] at this
  cases this
theorem refMotif_end {p : Prog} (hp : BenchFacts p) (hn : ∀ j, 1 ≤ j → j < p.shifts.length → cycB p j p.shifts.length = false) : p.shifts.length = motifN p := by
 have hm := motif_least hp
 have hle := (motif_le hp).2
 rcases Nat.lt_or_ge (motifN p) p.shifts.length with h | h
 ·have := hn _ hm.pos h
  rw [(cyc_shifts hp.sh0).2 hm.sh] at this
  cases this
 ·omega
theorem times_iff (n t k : Nat) (hn : 1 ≤ n) : k * t % n = 0 ↔ n / Nat.gcd n t ∣ k := by
 have hg : 0 < Nat.gcd n t := Nat.gcd_pos_of_pos_left _ hn
 obtain ⟨a, ha⟩ := Nat.gcd_dvd_left n t
 obtain ⟨b, hb⟩ := Nat.gcd_dvd_right n t
 have hco : Nat.Coprime (n / Nat.gcd n t) (t / Nat.gcd n t) := Nat.coprime_div_gcd_div_gcd hg
 have e1 : n / Nat.gcd n t = a := by rw [Nat.div_eq_iff_eq_mul_left hg (Nat.gcd_dvd_left n t), Nat.mul_comm]; exact ha
 have e2 : t / Nat.gcd n t = b := by rw [Nat.div_eq_iff_eq_mul_left hg (Nat.gcd_dvd_right n t), Nat.mul_comm]; exact hb
 rw [e1, e2] at hco
 rw [e1, ← Nat.dvd_iff_mod_eq_zero]
 constructor
 ·intro h
  have h2 : Nat.gcd n t * a ∣ Nat.gcd n t * (k * b) := by
   rw [← ha, show Nat.gcd n t * (k * b) = k * (Nat.gcd n t * b) by rw [← Nat.mul_assoc, Nat.mul_comm _ k, Nat.mul_assoc], ← hb]; exact h
  exact hco.dvd_of_dvd_mul_right (Nat.dvd_of_mul_dvd_mul_left hg h2)
 ·rintro ⟨c, rfl⟩
  refine ⟨c * b, ?_⟩
  calc a * c * t = a * c * (Nat.gcd n t * b) := by rw [← hb]
   _ = Nat.gcd n t * a * (c * b) := by rw [Nat.mul_comm (Nat.gcd n t) a, Nat.mul_assoc, Nat.mul_assoc, Nat.mul_left_comm c]
   _ = n * (c * b) := by rw [← ha]
theorem close_le {p : Prog} (hp : BenchFacts p) : 1 ≤ per p / Nat.gcd (per p) (turnI p).toNat ∧ per p / Nat.gcd (per p) (turnI p).toNat ≤ 96 ∧ 1 ≤ closeN p ∧ closeN p ≤ 1152 := by
 have h1 := per_pos hp
 have hr := hp.ros1
 have hg : 0 < Nat.gcd (per p) (turnI p).toNat := Nat.gcd_pos_of_pos_left _ h1.1
 have h2 : 1 ≤ per p / Nat.gcd (per p) (turnI p).toNat := (Nat.le_div_iff_mul_le hg).2 (by rw [Nat.one_mul]; exact Nat.gcd_le_left _ h1.1)
 have h3 : per p / Nat.gcd (per p) (turnI p).toNat ≤ 96 := Nat.le_trans (Nat.div_le_self _ _) (by omega)
 have hm := motif_le hp
 have hs := hp.sh1
 unfold closeN
 refine ⟨h2, h3, Nat.mul_pos hm.1 h2, ?_⟩
 calc _ ≤ 12 * 96 := Nat.mul_le_mul (by omega) h3
  _ = 1152 := rfl
end Go.Proofs.YtjdgkmcmgagkgaaGreat
namespace Go.Proofs.YtjdgkmcmgagkgaaGreat
set_option maxRecDepth 100000
set_option maxHeartbeats 4000000
open Go.RowKit
set_option linter.unusedVariables false
set_option linter.unusedSimpArgs false
theorem pf_r4_Check (v : Value) (p : Prog) (w : World) (hv : IsProg w v p) (E : Int) (hE : progE p = E) :
  Calls Tryz.prog 32 #[v] w fun e w' => e = .returned (.int .i64 E) ∧ Below w.heap.size w w' := by
 obtain ⟨v0, v1, v5, rfl, h0, h1, h5⟩ := hv
 have ⟨h0', h1', h5'⟩ := hyd3 h0 h1 h5
 obtain ⟨A0, c0, rfl, hc0, hm0, _, _⟩ := h0
 obtain ⟨A1, c1, rfl, hc1, hm1, _, _⟩ := h1
 obtain ⟨A5, c5, rfl, hc5, hm5, _, _⟩ := h5
 unfold maxLen at hm0 hm1 hm5
 unfold progE bothE at hE
 obtain ⟨R, hR⟩ : ∃ R, rosOk p.ros = R := ⟨_, rfl⟩
 obtain ⟨U, hU⟩ : ∃ U, rubOk p.rub p.ros.length = U := ⟨_, rfl⟩
 rw [hR, hU] at hE
 have ⟨hR', hU'⟩ := hyd2 hR hU
 clear hU hR
 cases R with
 | false =>
  obtain rfl : 30 = E := hE
  go_enter Tryz.func32, Tryz.ntmps32
  go_wp2_with (first | (go_at_call 37; ((with_reducible refine (pf_r3_Check _ p.ros _ (h0'.out.below (alc1 _ _)) false hR'.out).mono ?_); rintro e w' ⟨rfl, rfl⟩)))
  go_ret
  exact ⟨rfl, alc1 _ _⟩
 | true =>
  cases U with
  | false =>
   obtain rfl : 31 = E := hE
   go_enter Tryz.func32, Tryz.ntmps32
   go_wp2_with (first | (go_at_call 37; ((with_reducible refine (pf_r3_Check _ p.ros _ (h0'.out.below (alc1 _ _)) true hR'.out).mono ?_); rintro e w' ⟨rfl, rfl⟩)) | (go_at_call 38; ((with_reducible refine (pf_r3_CheckRubber _ p.rub _ _ (h1'.out.below (alc1 _ _)) false hU'.out).mono ?_); rintro e w' ⟨rfl, rfl⟩)))
   go_ret
   exact ⟨rfl, alc1 _ _⟩
  | true =>
   have hrl := rosOk_iff.1 hR'.out
   obtain ⟨l1, l2, _⟩ := hrl
   unfold progB at hE
   obtain ⟨X1, hX1⟩ : ∃ X, within p.start 0 10000 = X := ⟨_, rfl⟩
   obtain ⟨X2, hX2⟩ : ∃ X, within p.throw 1 16 = X := ⟨_, rfl⟩
   obtain ⟨X3, hX3⟩ : ∃ X, within p.adv (-1000) 1000 = X := ⟨_, rfl⟩
   obtain ⟨X4, hX4⟩ : ∃ X, within p.shifts.length 1 12 = X := ⟨_, rfl⟩
   rw [hX1, hX2, hX3, hX4] at hE
   have ⟨hX1', hX2', hX3', hX4'⟩ := hyd4 hX1 hX2 hX3 hX4
   clear hX4 hX3 hX2 hX1
   by_cases hall : X1 = true ∧ X2 = true ∧ X3 = true ∧ X4 = true
   ·obtain ⟨rfl, rfl, rfl, rfl⟩ := hall
    have h12 := within_iff.1 hX4'.out
    simp only [Bool.true_and, if_true] at hE
    go_enter Tryz.func32, Tryz.ntmps32
    go_wp2_with (first | (go_at_call 37; ((with_reducible refine (pf_r3_Check _ p.ros _ (h0'.out.below (alc1 _ _)) true hR'.out).mono ?_); rintro e w' ⟨rfl, rfl⟩)) | (go_at_call 38; ((with_reducible refine (pf_r3_CheckRubber _ p.rub _ _ (h1'.out.below (alc1 _ _)) true hU'.out).mono ?_); rintro e w' ⟨rfl, rfl⟩)) | (go_at_call 63; ((with_reducible refine (pf_within_barleycornref04 _ _ _ _).mono ?_); rintro e w' ⟨rfl, rfl⟩; first | rw [hX1'.out] | rw [hX2'.out] | rw [hX3'.out] | rw [hX4'.out])))
    go_loopw [5] (fun i wr => ∃ k : Nat, k ≤ p.shifts.length ∧ i = .int .i64 k ∧ Box w w.heap.size (.cells #[.slice A0 p.ros.length c0, .slice A1 p.rub.length c1, .int .i64 p.start, .int .i64 p.throw, .int .i64 p.adv, .slice A5 p.shifts.length c5] 28) wr ∧ Hid (∀ j (h : j < p.shifts.length), j < k → shiftB p.ros.length p.shifts[j] = true)) (fun i _ => p.shifts.length - (intOf i).toNat)
    case atStart => exact ⟨0, Nat.zero_le _, rfl, Box.start _ _, Lib.hid fun j _ h => absurd h (by omega)⟩
    case round =>
     obtain ⟨k, hk, rfl, hbox, hp⟩ := hrel
     obtain ⟨p0, p1, p2, p3, p4, p5⟩ := hbox.prog
     by_cases hlt : k < p.shifts.length
     ·obtain ⟨b, off, rfl, hbz, hck⟩ := (h5'.out.below hbox.below).look hlt
      have hmem := List.getElem_mem hlt
      generalize hx : p.shifts[k] = x at hck hmem
      obtain ⟨B, hB⟩ : ∃ B, within x 0 ((p.ros.length : Int) - 1) = B := ⟨_, rfl⟩
      have hcall : ∀ W : World, Calls Tryz.prog 63 #[.int .i64 x, .int .i64 0, .int .i64 ((p.ros.length : Int) - 1)] W fun e w' => e = .returned (.bool B) ∧ W = w' := fun W => by rw [← hB]; exact pf_within_barleycornref04 _ _ _ _
      have i1 : (0 : Int) ≤ (k : Int) := by omega
      have i2 : (k : Int) < (p.shifts.length : Int) := by omega
      have i3 : IntKind.i64.wrap ((p.ros.length : Int) - 1) = (p.ros.length : Int) - 1 := IntWalk.i64_in _ (by omega)
      have ⟨hx', hB', hcall', hE'⟩ := hyd4 hx hB hcall hE
      clear hE hcall hB hx
      cases B with
      | true =>
       go_wp2
       go_quiet (first | (go_at_call 63; exact quiet_same' (hcall'.out _)))
       go_wp2
       go_roundw
       case rel => exact ⟨k + 1, by omega, by go_num, hbox.drewN _, Lib.hid fun j h hj => by
        by_cases hjk : j = k
        ·subst hjk; rw [hx'.out]; exact hB'.out
        ·exact hp.out j h (by omega)⟩
       case measure => simp [intOf]; omega
      | false =>
       have he : p.shifts.all (shiftB p.ros.length) = false := List.all_eq_false.2 ⟨x, hmem, by unfold shiftB; rw [hB'.out]; decide⟩
       have hE2 := hE'.out
       rw [he] at hE2
       obtain rfl : 40 = E := hE2
       clear he
       go_wp2
       go_quiet (first | (go_at_call 63; exact quiet_same' (hcall'.out _)))
       go_wp2
       go_ret
       exact ⟨rfl, (hbox.drewN _).below⟩
     ·have he : p.shifts.all (shiftB p.ros.length) = true := List.all_eq_true.2 fun x hx => by
       obtain ⟨j, hj, rfl⟩ := List.mem_iff_getElem.1 hx
       exact hp.out j hj (by omega)
      rw [he] at hE
      obtain rfl : 0 = E := hE
      clear he
      go_wp2
      go_ret
      exact ⟨rfl, hbox.below⟩
   ·obtain rfl : 40 = E := by
     rw [← hE]
     cases X1 <;> cases X2 <;> cases X3 <;> cases X4 <;> simp_all
    clear hE
    cases X1
    rotate_left
    ·cases X2
     rotate_left
     ·cases X3
      rotate_left
      ·cases X4
       rotate_left
       ·exact absurd ⟨rfl, rfl, rfl, rfl⟩ hall
       all_goals
        clear hall
        go_enter Tryz.func32, Tryz.ntmps32
        go_wp2_with (first | (go_at_call 37; ((with_reducible refine (pf_r3_Check _ p.ros _ (h0'.out.below (alc1 _ _)) true hR'.out).mono ?_); rintro e w' ⟨rfl, rfl⟩)) | (go_at_call 38; ((with_reducible refine (pf_r3_CheckRubber _ p.rub _ _ (h1'.out.below (alc1 _ _)) true hU'.out).mono ?_); rintro e w' ⟨rfl, rfl⟩)) | (go_at_call 63; ((with_reducible refine (pf_within_barleycornref04 _ _ _ _).mono ?_); rintro e w' ⟨rfl, rfl⟩; first | rw [hX1'.out] | rw [hX2'.out] | rw [hX3'.out] | rw [hX4'.out])))
        go_ret
        exact ⟨rfl, alc1 _ _⟩
      all_goals
       clear hall
       go_enter Tryz.func32, Tryz.ntmps32
       go_wp2_with (first | (go_at_call 37; ((with_reducible refine (pf_r3_Check _ p.ros _ (h0'.out.below (alc1 _ _)) true hR'.out).mono ?_); rintro e w' ⟨rfl, rfl⟩)) | (go_at_call 38; ((with_reducible refine (pf_r3_CheckRubber _ p.rub _ _ (h1'.out.below (alc1 _ _)) true hU'.out).mono ?_); rintro e w' ⟨rfl, rfl⟩)) | (go_at_call 63; ((with_reducible refine (pf_within_barleycornref04 _ _ _ _).mono ?_); rintro e w' ⟨rfl, rfl⟩; first | rw [hX1'.out] | rw [hX2'.out] | rw [hX3'.out] | rw [hX4'.out])))
       go_ret
       exact ⟨rfl, alc1 _ _⟩
     all_goals
      clear hall
      go_enter Tryz.func32, Tryz.ntmps32
      go_wp2_with (first | (go_at_call 37; ((with_reducible refine (pf_r3_Check _ p.ros _ (h0'.out.below (alc1 _ _)) true hR'.out).mono ?_); rintro e w' ⟨rfl, rfl⟩)) | (go_at_call 38; ((with_reducible refine (pf_r3_CheckRubber _ p.rub _ _ (h1'.out.below (alc1 _ _)) true hU'.out).mono ?_); rintro e w' ⟨rfl, rfl⟩)) | (go_at_call 63; ((with_reducible refine (pf_within_barleycornref04 _ _ _ _).mono ?_); rintro e w' ⟨rfl, rfl⟩; first | rw [hX1'.out] | rw [hX2'.out] | rw [hX3'.out] | rw [hX4'.out])))
      go_ret
      exact ⟨rfl, alc1 _ _⟩
    all_goals
     clear hall
     go_enter Tryz.func32, Tryz.ntmps32
     go_wp2_with (first | (go_at_call 37; ((with_reducible refine (pf_r3_Check _ p.ros _ (h0'.out.below (alc1 _ _)) true hR'.out).mono ?_); rintro e w' ⟨rfl, rfl⟩)) | (go_at_call 38; ((with_reducible refine (pf_r3_CheckRubber _ p.rub _ _ (h1'.out.below (alc1 _ _)) true hU'.out).mono ?_); rintro e w' ⟨rfl, rfl⟩)) | (go_at_call 63; ((with_reducible refine (pf_within_barleycornref04 _ _ _ _).mono ?_); rintro e w' ⟨rfl, rfl⟩; first | rw [hX1'.out] | rw [hX2'.out] | rw [hX3'.out] | rw [hX4'.out])))
     go_ret
     exact ⟨rfl, alc1 _ _⟩
end Go.Proofs.YtjdgkmcmgagkgaaGreat
namespace Go.Proofs.YtjdgkmcmgagkgaaGreat
set_option maxRecDepth 100000
set_option maxHeartbeats 4000000
open Go.RowKit
set_option linter.unusedVariables false
set_option linter.unusedSimpArgs false
def phasesL (p : Prog) (a : Int) (n : Nat) : List Int := (List.range n).map fun (k : Nat) => phaseI p (a + k)
theorem phasesL_succ (p : Prog) (a : Int) (n : Nat) : phasesL p a (n + 1) = phasesL p a n ++ [phaseI p (a + n)] := by unfold phasesL; rw [List.range_succ]; simp
theorem phasesL_length (p : Prog) (a : Int) (n : Nat) : (phasesL p a n).length = n := by simp [phasesL]
def phasesE (p : Prog) (a n : Int) : Int := if progE p ≠ 0 then progE p else if within a (-5000) 5000 && within n 0 200 then 0 else 2
end Go.Proofs.YtjdgkmcmgagkgaaGreat
namespace Go.Proofs.YtjdgkmcmgagkgaaGreat
set_option maxRecDepth 100000
set_option maxHeartbeats 4000000
open Go.RowKit
set_option linter.unusedVariables false
set_option linter.unusedSimpArgs false
def shapeL (p : Prog) (j : Int) : List Int := (movedL (liftL p.ros p.rub) (phaseI p j)).map (· * p.throw)
def cutL (p : Prog) (j : Int) : List Int := (shapeL p j).map (· + (p.start + j * p.adv))
theorem phaseI_bound {p : Prog} (hp : BenchFacts p) (j : Int) : 0 ≤ phaseI p j ∧ phaseI p j < p.ros.length := by
 have := hp.ros0
 exact ⟨Int.emod_nonneg _ (by omega), Int.emod_lt_of_pos _ (by omega)⟩
theorem moved_height {f : List Int} (h : rosOk f = true) (s : Int) (k : Nat) (hk : k < (movedL f s).length) : 0 ≤ (movedL f s)[k] ∧ (movedL f s)[k] ≤ 10000 := by
 rw [movedL_length] at hk
 rw [movedL_get f s k hk]
 exact atR_height h _
theorem mul_small (x t : Int) (hx : 0 ≤ x ∧ x ≤ 10000) (ht : 1 ≤ t ∧ t ≤ 16) : 0 ≤ x * t ∧ x * t ≤ 160000 := by
 have h1 := Int.mul_le_mul hx.2 ht.2 (by omega) (by omega)
 have h2 := Int.mul_nonneg hx.1 (show (0 : Int) ≤ t by omega)
 omega
attribute [local go_sem ↓] Go.wp_at_zero Go.wp_at_succ
theorem pf_r4_Shape (v : Value) (p : Prog) (j : Int) (w : World) (hv : IsProg w v p) (hp : BenchFacts p) (h1 : -1000000 ≤ j) (h2 : j ≤ 1000000) :
  Calls Tryz.prog 64 #[v, .int .i64 j] w fun e w' => ∃ v', e = .returned v' ∧ Below w.heap.size w w' ∧ w'.ownsRow w.heap.size 3 1 v' (shapeL p j).length ((shapeL p j).map vint) := by
 have hv0 := Lib.hid hv
 obtain ⟨v0, v1, v5, rfl, h0, hh1, h5⟩ := hv
 clear h0 hh1 h5
 have hr0 := hp.ros0
 have hr1 := hp.ros1
 have hph := phaseI_bound hp j
 obtain ⟨y, hy⟩ : ∃ y, phaseI p j = y := ⟨_, rfl⟩
 rw [hy] at hph
 have hcall : ∀ W V, IsProg W V p → Calls Tryz.prog 91 #[V, .int .i64 j] W fun e w' => e = .returned (.int .i64 y) ∧ Below W.heap.size W w' := fun W V h => by rw [← hy]; exact pf_r4_Phase V p j W h hp h1 h2
 unfold shapeL
 rw [hy]
 have ⟨hcall', hy'⟩ := hyd2 hcall hy
 clear hy hcall
 have hbx0 := (Box.start w (.cells #[v0, v1, .int .i64 p.start, .int .i64 p.throw, .int .i64 p.adv, v5] 28)).drew
 go_enter Tryz.func64, Tryz.ntmps64
 go_wp2
 go_region_held3 (fun w' => w'.cell? ⟨w.heap.size, 0, none⟩ = some v0 ∧ w'.cell? ⟨w.heap.size, 1, none⟩ = some v1 ∧ w'.cell? ⟨w.heap.size, 2, none⟩ = some (.int .i64 p.start) ∧ w'.cell? ⟨w.heap.size, 3, none⟩ = some (.int .i64 p.throw) ∧ w'.cell? ⟨w.heap.size, 4, none⟩ = some (.int .i64 p.adv) ∧ w'.cell? ⟨w.heap.size, 5, none⟩ = some v5) (go_keep) (first | (go_at_call 90; refine (pf_r4_lift _ p _ (hv0.out.below (Box.below (by assumption))) hp).mono ?_; rintro e w' ⟨v', rfl, hb, ho⟩; have hI := Lib.hid (own_ints ho); clear ho; have hbx := Box.next (by assumption) hb; obtain ⟨p0, p1, p2, p3, p4, p5⟩ := hbx.prog) | (go_at_call 91; refine (hcall'.out _ _ (hv0.out.below (Box.below (by assumption)))).mono ?_; rintro e w' ⟨rfl, hbp⟩; have hbx := Box.next (by assumption) hbp; obtain ⟨p0, p1, p2, p3, p4, p5⟩ := hbx.prog) | (go_at_call 89; refine (pf_Moved _ _ y _ (by first | exact hI.out | exact hI.out.below hbp) (by rw [liftL_length]; omega) (by omega)).mono ?_; rintro e w' ⟨v3, rfl, hb3, ho3⟩; have hbx3 := Box.next (by assumption) hb3; obtain ⟨p0, p1, p2, p3, p4, p5⟩ := hbx3.prog; have ho3' := Lib.hid ho3; clear ho3))
 all_goals
  have ho := Lib.hid (own_base ho3'.out (Nat.succ_le_of_lt hbx.lt))
  have hb3' := hyd1 hb3
  have hbz := hbx3
  clear ho3' hbx3 hbx hb3 p0 p1 p2 p3 p4 p5
  have hL0 : (movedL (liftL p.ros p.rub) y).length = p.ros.length := by rw [movedL_length, liftL_length]
  have hLh := moved_height (lift_ok hp.ros hp.rub) y
  have hth := hp.throw
  rw [hL0] at ho
  generalize hLe : movedL (liftL p.ros p.rub) y = L at ho hL0 hLh
  have hLe' := hyd1 hLe
  clear hLe
  obtain ⟨g, c, rfl, hg, hgl, hgc, hgm⟩ := own_form ho.out (by omega)
  unfold maxLen at hgm
  go_wp2
  go_loopw [6] (fun i wr => ∃ k : Nat, k ≤ p.ros.length ∧ i = .int .i64 k ∧ Box w w.heap.size (.cells #[v0, v1, .int .i64 p.start, .int .i64 p.throw, .int .i64 p.adv, v5] 28) wr ∧ Hid (wr.ownsRow (w.heap.size + 1) 3 1 (.slice (some ⟨g, 0, none⟩) p.ros.length c) p.ros.length ((part (· * p.throw) L k).map vint))) (fun i _ => p.ros.length - (intOf i).toNat)
  case atStart => exact ⟨0, Nat.zero_le _, rfl, hbz, by rw [part_zero]; exact ho⟩
  case round =>
   obtain ⟨k, hk, rfl, hbox, hown⟩ := hrel
   by_cases hlt : k < p.ros.length
   ·have hkL : k < L.length := by omega
    have hlen := part_length (· * p.throw) L k
    have hck := own_cell hown.out (by omega) (part_get (· * p.throw) L k hkL)
    have hfr := hown.out.frozenAt k
    have hx := hLh k hkL
    have hset := part_set (· * p.throw) L k hkL
    generalize L[k] = x at hck hx hset
    have hm := mul_small x p.throw hx hth
    have hw1 : IntKind.i64.wrap (x * p.throw) = x * p.throw := IntWalk.i64_in _ (by omega)
    obtain ⟨p0, p1, p2, p3, p4, p5⟩ := hbox.prog
    have i1 : (0 : Int) ≤ (k : Int) := by omega
    have i2 : (k : Int) < (p.ros.length : Int) := by omega
    have ⟨hset', hlen'⟩ := hyd2 hset hlen
    clear hlen hset
    go_wp2
    go_still_tail 8, (by kernel_rfl)
    change wpList _ _ _ _ _ wr.drew
    have hbd := hbox.drew
    have hod : Hid (wr.drew.ownsRow _ _ _ _ _ _) := hown
    clear hck hfr p0 p1 p2 p3 p4 p5 hbox hown
    generalize wr.drew = w4 at hbd hod ⊢
    have hck := own_cell hod.out (by have := hlen'.out; omega) (part_get (· * p.throw) L k hkL)
    have hfr := hod.out.frozenAt k
    go_wp2
    go_roundw
    case rel => exact ⟨k + 1, by omega, by go_num, hbd.set (by omega) (by omega) _, Lib.hid (by have h := own_put hod.out k (x * p.throw); rw [hset'.out] at h; exact h)⟩
    case measure => simp [intOf]; omega
   ·obtain rfl : k = p.ros.length := by omega
    have hfin := hown.out
    rw [← hL0, part_all] at hfin
    have hfin' := hyd1 hfin
    clear hfin
    go_wp2
    go_ret
    exact ⟨_, rfl, hbox.below, by have h := own_base hfin'.out (Nat.le_succ _); rw [hLe'.out]; simpa [hL0] using h⟩
end Go.Proofs.YtjdgkmcmgagkgaaGreat
namespace Go.Proofs.YtjdgkmcmgagkgaaGreat
set_option maxRecDepth 100000
set_option maxHeartbeats 4000000
open Go.RowKit
set_option linter.unusedVariables false
set_option linter.unusedSimpArgs false
def cutE (p : Prog) (j : Int) : Int := if progE p ≠ 0 then progE p else if within j (-5000) 5000 then 0 else 2
theorem mul_adv (j t : Int) (hj : -5001 ≤ j ∧ j ≤ 5001) (ht : -1000 ≤ t ∧ t ≤ 1000) : -5001000 ≤ j * t ∧ j * t ≤ 5001000 := by
 rcases Int.le_total 0 t with h | h
 ·have a := Int.mul_le_mul_of_nonneg_right hj.2 h
  have b := Int.mul_le_mul_of_nonneg_right hj.1 h
  omega
 ·have a := Int.mul_le_mul_of_nonpos_right hj.1 h
  have b := Int.mul_le_mul_of_nonpos_right hj.2 h
  omega
theorem shape_bound {p : Prog} (hp : BenchFacts p) (j : Int) (k : Nat) (hk : k < (shapeL p j).length) : 0 ≤ (shapeL p j)[k] ∧ (shapeL p j)[k] ≤ 160000 := by
 unfold shapeL at hk ⊢
 rw [List.getElem_map]
 exact mul_small _ _ (moved_height (lift_ok hp.ros hp.rub) _ _ _) hp.throw
theorem shapeL_length (p : Prog) (j : Int) : (shapeL p j).length = p.ros.length := by simp [shapeL, movedL_length, liftL_length]
attribute [local go_sem ↓] Go.wp_at_zero Go.wp_at_succ
theorem pf_r4_Cut (v : Value) (p : Prog) (j : Int) (w : World) (hv : IsProg w v p) (E : Int) (hE : cutE p j = E) :
  Calls Tryz.prog 34 #[v, .int .i64 j] w fun e w' => ∃ v', e = .returned (.tuple #[v', .int .i64 E]) ∧ Below w.heap.size w w' ∧ Ints w' v' (onOk E (cutL p j)) := by
 have hv0 := Lib.hid hv
 obtain ⟨v0, v1, v5, rfl, h0, hh1, h5⟩ := hv
 clear h0 hh1 h5
 unfold cutE at hE
 obtain ⟨F, hF⟩ : ∃ F, progE p = F := ⟨_, rfl⟩
 rw [hF] at hE
 by_cases hF0 : F = 0
 ·subst hF0
  have hp := benchFacts hF
  obtain ⟨X1, hX1⟩ : ∃ X, within j (-5000) 5000 = X := ⟨_, rfl⟩
  rw [hX1] at hE
  have ⟨hF', hX1'⟩ := hyd2 hF hX1
  clear hX1 hF
  cases X1 with
  | false =>
   obtain rfl : 2 = E := hE
   go_enter Tryz.func34, Tryz.ntmps34
   go_wp2_with (first | (go_at_call 32; ((with_reducible refine (pf_r4_Check _ p _ (hv0.out.below (alc1 _ _)) 0 hF'.out).mono ?_); rintro e w' ⟨rfl, hb1⟩; have hbox := (Box.start w _).next hb1; clear hb1)) | (go_at_call 63; ((with_reducible refine (pf_within_barleycornref04 _ _ _ _).mono ?_); rintro e w' ⟨rfl, rfl⟩; rw [hX1'.out])))
   go_ret2
   exact ⟨_, rfl, hbox.below, Arr.nil _ _⟩
  | true =>
   obtain rfl : 0 = E := hE
   obtain ⟨a1, a2⟩ := within_iff.1 hX1'.out
   have hr0 := hp.ros0
   have hr1 := hp.ros1
   go_enter Tryz.func34, Tryz.ntmps34
   go_wp2_with (first | (go_at_call 32; ((with_reducible refine (pf_r4_Check _ p _ (hv0.out.below (alc1 _ _)) 0 hF'.out).mono ?_); rintro e w' ⟨rfl, hb1⟩; have hbox := (Box.start w _).next hb1; clear hb1; obtain ⟨p0, p1, p2, p3, p4, p5⟩ := hbox.prog)) | (go_at_call 63; ((with_reducible refine (pf_within_barleycornref04 _ _ _ _).mono ?_); rintro e w' ⟨rfl, rfl⟩; rw [hX1'.out])) | (go_at_call 64; ((with_reducible refine (pf_r4_Shape _ p j _ (hv0.out.below hbox.below) hp (by omega) (by omega)).mono ?_); rintro e w' ⟨v3, rfl, hb2, ho⟩; have ho' := Lib.hid (own_base ho (Nat.succ_le_of_lt hbox.lt)); have hbz := hbox.next hb2; clear ho hb2 hbox p0 p1 p2 p3 p4 p5)))
   have ho := ho'
   clear ho'
   have hL0 := shapeL_length p j
   have hLh := shape_bound hp j
   have hth := hp.throw
   rw [hL0] at ho
   generalize hLe : shapeL p j = L at ho hL0 hLh
   have hLe' := hyd1 hLe
   clear hLe
   obtain ⟨g, c, rfl, hg, hgl, hgc, hgm⟩ := own_form ho.out (by omega)
   unfold maxLen at hgm
   have hadv := hp.adv
   have hst := hp.start
   have hma := mul_adv j p.adv (by omega) hadv
   obtain ⟨A, hA⟩ : ∃ A, p.start + j * p.adv = A := ⟨_, rfl⟩
   have hAb : -6000000 ≤ A ∧ A ≤ 6000000 := by omega
   go_wp2
   go_loopw [8] (fun i wr => ∃ k : Nat, k ≤ p.ros.length ∧ i = .int .i64 k ∧ Box w w.heap.size (.cells #[v0, v1, .int .i64 p.start, .int .i64 p.throw, .int .i64 p.adv, v5] 28) wr ∧ Hid (wr.ownsRow (w.heap.size + 1) 3 1 (.slice (some ⟨g, 0, none⟩) p.ros.length c) p.ros.length ((part (· + A) L k).map vint))) (fun i _ => p.ros.length - (intOf i).toNat)
   case atStart => exact ⟨0, Nat.zero_le _, rfl, hbz, by rw [part_zero]; exact ho⟩
   case round =>
    obtain ⟨k, hk, rfl, hbox, hown⟩ := hrel
    by_cases hlt : k < p.ros.length
    ·have hkL : k < L.length := by omega
     have hlen := part_length (· + A) L k
     have hck := own_cell hown.out (by omega) (part_get (· + A) L k hkL)
     have hfr := hown.out.frozenAt k
     have hx := hLh k hkL
     have hset := part_set (· + A) L k hkL
     generalize L[k] = x at hck hx hset
     have hw1 : IntKind.i64.wrap (j * p.adv) = j * p.adv := IntWalk.i64_in _ (by omega)
     have hw2 : IntKind.i64.wrap (p.start + j * p.adv) = A := by rw [hA]; exact IntWalk.i64_in _ (by omega)
     have hw3 : IntKind.i64.wrap (x + A) = x + A := IntWalk.i64_in _ (by omega)
     obtain ⟨p0, p1, p2, p3, p4, p5⟩ := hbox.prog
     have i1 : (0 : Int) ≤ (k : Int) := by omega
     have i2 : (k : Int) < (p.ros.length : Int) := by omega
     have ⟨hset', hlen', hA'⟩ := hyd3 hset hlen hA
     clear hA hlen hset
     go_wp2
     go_still_tail 13, (by kernel_rfl)
     change wpList _ _ _ _ _ wr.drew
     have hbd := hbox.drew
     have hod : Hid (wr.drew.ownsRow _ _ _ _ _ _) := hown
     clear hck hfr p0 p1 p2 p3 p4 p5 hbox hown
     generalize wr.drew = w4 at hbd hod ⊢
     have hck := own_cell hod.out (by have := hlen'.out; omega) (part_get (· + A) L k hkL)
     have hfr := hod.out.frozenAt k
     go_wp2
     go_roundw
     case rel => exact ⟨k + 1, by omega, by go_num, hbd.set (by omega) (by omega) _, Lib.hid (by have h := own_put hod.out k (x + A); rw [hset'.out] at h; exact h)⟩
     case measure => simp [intOf]; omega
    ·obtain rfl : k = p.ros.length := by omega
     have hfin := hown.out
     rw [← hL0, part_all] at hfin
     have ⟨hfin', hA'⟩ := hyd2 hfin hA
     clear hA hfin
     go_wp2
     go_ret2
     exact ⟨_, rfl, hbox.below, by rw [onOk_zero]; unfold cutL; rw [hLe'.out, hA'.out]; exact own_ints (n := p.ros.length) (by simpa [hL0] using hfin'.out)⟩
 ·rw [if_pos hF0] at hE
  subst hE
  have hne : (F != 0) = true := by simpa using hF0
  have hn := Lib.hid (onOk_ne hF0 (cutL p j))
  have ⟨hF', hF0'⟩ := hyd2 hF hF0
  clear hF0 hF
  go_enter Tryz.func34, Tryz.ntmps34
  go_wp2_with (first | (go_at_call 32; ((with_reducible refine (pf_r4_Check _ p _ (hv0.out.below (alc1 _ _)) F hF'.out).mono ?_); rintro e w' ⟨rfl, hb1⟩)))
  go_ret2
  exact ⟨_, rfl, ((Box.start w _).next hb1).below, by rw [hn.out]; exact Arr.nil _ _⟩
end Go.Proofs.YtjdgkmcmgagkgaaGreat
namespace Go.Proofs.YtjdgkmcmgagkgaaGreat
set_option maxRecDepth 100000
set_option maxHeartbeats 4000000
open Go.RowKit
set_option linter.unusedVariables false
set_option linter.unusedSimpArgs false
theorem IsBench.lt {w : World} {b : Nat} {p : Prog} (h : IsBench w b p) : b < w.heap.size := by
 obtain ⟨v0, v1, v5, vl, hc, _⟩ := h
 exact (gsl hc)
theorem IsBench.drewN {w : World} {b : Nat} {p : Prog} (h : IsBench w b p) (n : Nat) : IsBench (w.drewN n) b p := h.below (Below.of_drewN _ _)
theorem IsBench.drew {w : World} {b : Nat} {p : Prog} (h : IsBench w b p) : IsBench w.drew b p := h.below (Below.refl _ _).drew
theorem IsBench.cells {w : World} {b : Nat} {p : Prog} (h : IsBench w b p) : ∃ v5 vl, Ints w v5 p.shifts ∧ Ints w vl (liftL p.ros p.rub) ∧
  w.cell? ⟨b, 2, none⟩ = some (.int .i64 p.start) ∧ w.cell? ⟨b, 3, none⟩ = some (.int .i64 p.throw) ∧ w.cell? ⟨b, 4, none⟩ = some (.int .i64 p.adv) ∧ w.cell? ⟨b, 5, none⟩ = some v5 ∧
  w.cell? ⟨b, 6, none⟩ = some vl ∧ w.cell? ⟨b, 7, none⟩ = some (.int .i64 p.ros.length) ∧ w.cell? ⟨b, 8, none⟩ = some (.int .i64 p.shifts.length) ∧ w.cell? ⟨b, 9, none⟩ = some (.int .i64 (periodL (liftL p.ros p.rub))) := by
 obtain ⟨v0, v1, v5, vl, hc, h0, h1, h5, hl⟩ := h
 obtain ⟨c0, c1, c2, c3, c4, c5, c6, c7, c8, c9⟩ := bench_low hc
 exact ⟨v5, vl, h5, hl, c2, c3, c4, c5, c6, c7, c8, c9⟩
end Go.Proofs.YtjdgkmcmgagkgaaGreat
