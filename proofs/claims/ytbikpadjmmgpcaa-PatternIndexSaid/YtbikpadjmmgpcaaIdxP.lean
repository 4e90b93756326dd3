/- Index plates, plain: the hole nearest to a part of a turn; the first of the nearest is found among two holes of each plate. pattern.Index: the first of the nearest holes is found among two of each plate. pattern.Index, of arguments that are in order. -/
import Derived.Test.YtbikpadjmmgpcaaRat4
import Derived.Test.YtbikpadjmmgpcaaResKit
import Derived.Test.YtbikpadjmmgpcaaOper3
import Derived.Test.YtbikpadjmmgpcaaTurnKit
import Derived.Test.YtbikpadjmmgpcaaBoxKit
import Derived.Deep.DrawnRows
namespace Go.Proofs.Ytbikpadjmmgpcaa
set_option linter.unusedVariables false
theorem rlt_lt {a b c : Rat} (h : a < b) (k : b ≤ c) : a < c := by grind
theorem rle_lt {a b c : Rat} (h : a ≤ b) (k : b < c) : a < c := by grind
theorem rlt_tr {a b c : Rat} (h : a < b) (k : b < c) : a < c := by grind
theorem rat_div_le (a b c : Rat) (hp : 0 < c) : a / c ≤ b / c ↔ a ≤ b := by
  constructor
  · intro h
    have := Rat.mul_le_mul_of_nonneg_right h (Rat.le_of_lt hp)
    rw [Rat.div_mul_cancel (Ne.symm (Rat.ne_of_lt hp)), Rat.div_mul_cancel (Ne.symm (Rat.ne_of_lt hp))] at this
    exact this
  · intro h
    rw [Rat.div_def, Rat.div_def]
    exact Rat.mul_le_mul_of_nonneg_right h (Rat.le_of_lt (Rat.inv_pos.2 hp))
/-- How far hole k of a plate with n holes is off, times n * den. -/
def farN (num den n k : Nat) : Nat := ((k : Int) * den - (n : Int) * num).natAbs
/-- How far it is off. -/
def farR (num den n k : Nat) : Rat := ((farN num den n k : Nat) : Rat) / (((n * den : Nat)) : Rat)
theorem farR_le {num den n j k : Nat} (hn : 0 < n * den) : farR num den n j ≤ farR num den n k ↔ farN num den n j ≤ farN num den n k := by
  unfold farR
  have hp : (0 : Rat) < ((n * den : Nat) : Rat) := by exact_mod_cast hn
  rw [rat_div_le _ _ _ hp]
  exact_mod_cast Iff.rfl
theorem farR_lt {num den n j k : Nat} (hn : 0 < n * den) : farR num den n j < farR num den n k ↔ farN num den n j < farN num den n k := by
  rw [← Rat.not_le, farR_le hn]
  omega
abbrev IdxS := Nat × Nat × Rat
/-- One hole more. -/
noncomputable def idxHole (num den i n : Nat) (s : IdxS) (k : Nat) : IdxS := if farR num den n k < s.2.2 then (i, k, farR num den n k) else s
noncomputable def idxHoles (num den i n : Nat) (s : IdxS) : Nat → IdxS
  | 0 => s
  | m + 1 => idxHole num den i n (idxHoles num den i n s m) m
/-- After all plates ahead of m. -/
noncomputable def idxL (num den : Nat) (ns : List Nat) : Nat → IdxS
  | 0 => (0, 0, (num : Rat) / (den : Rat))
  | m + 1 => idxHoles num den m (ns.getD m 0) (idxL num den ns m) (ns.getD m 0 + 1)
/-- What holes from lo to hi - 1 make of the state s. -/
def Ran (num den i n : Nat) (s : IdxS) (lo hi : Nat) (t : IdxS) : Prop :=
  (t = s ∧ ∀ j, lo ≤ j → j < hi → s.2.2 ≤ farR num den n j) ∨
  (∃ k, lo ≤ k ∧ k < hi ∧ t = (i, k, farR num den n k) ∧ farR num den n k < s.2.2 ∧ (∀ j, lo ≤ j → j < hi → farR num den n k ≤ farR num den n j) ∧ ∀ j, lo ≤ j → j < k → farR num den n k < farR num den n j)
/-- .. where nothing was found ahead. -/
def RanZ (num den i n : Nat) (lo hi : Nat) (t : IdxS) : Prop :=
  ∃ k, lo ≤ k ∧ k < hi ∧ t = (i, k, farR num den n k) ∧ (∀ j, lo ≤ j → j < hi → farR num den n k ≤ farR num den n j) ∧ ∀ j, lo ≤ j → j < k → farR num den n k < farR num den n j
theorem Ran.start (num den i n : Nat) (s : IdxS) (lo : Nat) : Ran num den i n s lo lo s := .inl ⟨rfl, fun j h1 h2 => absurd h1 (by omega)⟩
theorem Ran.next {num den i n : Nat} {s t : IdxS} {lo hi : Nat} (h : Ran num den i n s lo hi t) (hl : lo ≤ hi) : Ran num den i n s lo (hi + 1) (idxHole num den i n t hi) := by
  unfold idxHole
  rcases h with ⟨rfl, h1⟩ | ⟨k, k1, k2, rfl, h1, h2, h3⟩
  · by_cases hc : farR num den n hi < t.2.2
    · rw [if_pos hc]
      refine .inr ⟨hi, hl, by omega, rfl, hc, fun j hj1 hj2 => ?_, fun j hj1 hj2 => ?_⟩
      · by_cases he : j = hi
        · subst he; exact Rat.le_refl
        · exact Rat.le_of_lt (rlt_lt hc (h1 j hj1 (by omega)))
      · exact rlt_lt hc (h1 j hj1 hj2)
    · rw [if_neg hc]
      refine .inl ⟨rfl, fun j hj1 hj2 => ?_⟩
      by_cases he : j = hi
      · subst he; exact Rat.not_lt.1 hc
      · exact h1 j hj1 (by omega)
  · by_cases hc : farR num den n hi < farR num den n k
    · rw [if_pos hc]
      refine .inr ⟨hi, hl, by omega, rfl, rlt_tr hc h1, fun j hj1 hj2 => ?_, fun j hj1 hj2 => ?_⟩
      · by_cases he : j = hi
        · subst he; exact Rat.le_refl
        · exact Rat.le_of_lt (rlt_lt hc (h2 j hj1 (by omega)))
      · exact rlt_lt hc (h2 j hj1 hj2)
    · rw [if_neg hc]
      refine .inr ⟨k, k1, by omega, rfl, h1, fun j hj1 hj2 => ?_, h3⟩
      by_cases he : j = hi
      · subst he; exact Rat.not_lt.1 hc
      · exact h2 j hj1 (by omega)
theorem Ran.holes (num den i n : Nat) (s : IdxS) : ∀ m, Ran num den i n s 0 m (idxHoles num den i n s m)
  | 0 => Ran.start _ _ _ _ _ _
  | m + 1 => (Ran.holes num den i n s m).next (Nat.zero_le _)
theorem Ran.unique {num den i n : Nat} {s t u : IdxS} {lo hi : Nat} (h : Ran num den i n s lo hi t) (k : Ran num den i n s lo hi u) : t = u := by
  rcases h with ⟨rfl, h1⟩ | ⟨a, a1, a2, rfl, h1, h2, h3⟩ <;> rcases k with ⟨rfl, k1⟩ | ⟨b, b1, b2, rfl, k1, k2, k3⟩
  · rfl
  · exact absurd (h1 b b1 b2) (Rat.not_le.2 k1)
  · exact absurd (k1 a a1 a2) (Rat.not_le.2 h1)
  · have : a = b := by
      rcases Nat.lt_trichotomy a b with hab | hab | hab
      · exact absurd (h2 b b1 b2) (Rat.not_le.2 (k3 a a1 hab))
      · exact hab
      · exact absurd (k2 a a1 a2) (Rat.not_le.2 (h3 b b1 hab))
    subst this
    rfl
theorem RanZ.start (num den i n lo : Nat) : RanZ num den i n lo (lo + 1) (i, lo, farR num den n lo) :=
  ⟨lo, Nat.le_refl _, Nat.lt_succ_self _, rfl, fun j h1 h2 => by obtain rfl : j = lo := by omega
                                                                 exact Rat.le_refl, fun j h1 h2 => absurd h1 (by omega)⟩
theorem RanZ.next {num den i n : Nat} {t : IdxS} {lo hi : Nat} (h : RanZ num den i n lo hi t) (hl : lo ≤ hi) : RanZ num den i n lo (hi + 1) (idxHole num den i n t hi) := by
  obtain ⟨k, k1, k2, rfl, h2, h3⟩ := h
  unfold idxHole
  by_cases hc : farR num den n hi < farR num den n k
  · rw [if_pos hc]
    refine ⟨hi, hl, by omega, rfl, fun j hj1 hj2 => ?_, fun j hj1 hj2 => ?_⟩
    · by_cases he : j = hi
      · subst he; exact Rat.le_refl
      · exact Rat.le_of_lt (rlt_lt hc (h2 j hj1 (by omega)))
    · exact rlt_lt hc (h2 j hj1 hj2)
  · rw [if_neg hc]
    refine ⟨k, k1, by omega, rfl, fun j hj1 hj2 => ?_, h3⟩
    by_cases he : j = hi
    · subst he; exact Rat.not_lt.1 hc
    · exact h2 j hj1 (by omega)
/-- The hole at or ahead of the place. -/
def fl (num den n : Nat) : Nat := n * num / den
theorem fl_le {num den n : Nat} (hd : 0 < den) (h : num ≤ den) : fl num den n ≤ n := by
  unfold fl
  exact Nat.div_le_of_le_mul (by rw [Nat.mul_comm den n]; exact Nat.mul_le_mul_left n h)
theorem fl_bounds {num den n : Nat} (hd : 0 < den) : fl num den n * den ≤ n * num ∧ n * num < (fl num den n + 1) * den := by
  unfold fl
  have h1 := Nat.div_add_mod (n * num) den
  have h2 := Nat.mod_lt (n * num) hd
  rw [Nat.mul_comm] at h1
  exact ⟨by omega, by rw [Nat.add_mul]; omega⟩
theorem far_low {num den n j : Nat} (hd : 0 < den) (h : j < fl num den n) : farN num den n (fl num den n) < farN num den n j := by
  have hb := (fl_bounds (num := num) (n := n) hd).1
  have h1 : (j + 1) * den ≤ fl num den n * den := Nat.mul_le_mul_right den h
  unfold farN
  rw [Nat.add_mul] at h1
  have e1 : ((fl num den n : Nat) : Int) * (den : Int) = ((fl num den n * den : Nat) : Int) := by simp
  have e2 : (n : Int) * (num : Int) = ((n * num : Nat) : Int) := by simp
  have e3 : (j : Int) * (den : Int) = ((j * den : Nat) : Int) := by simp
  rw [e1, e2, e3]
  generalize hY : fl num den n * den = Y at *
  omega
theorem far_high {num den n j : Nat} (hd : 0 < den) (h : fl num den n + 1 < j) : farN num den n (fl num den n + 1) < farN num den n j := by
  have hb := (fl_bounds (num := num) (n := n) hd).2
  have h1 : (fl num den n + 1 + 1) * den ≤ j * den := Nat.mul_le_mul_right den h
  unfold farN
  have e1 : ((fl num den n + 1 : Nat) : Int) * (den : Int) = (((fl num den n + 1) * den : Nat) : Int) := by simp
  have e2 : (n : Int) * (num : Int) = ((n * num : Nat) : Int) := by simp
  have e3 : (j : Int) * (den : Int) = ((j * den : Nat) : Int) := by simp
  rw [e1, e2, e3]
  rw [Nat.add_mul (fl num den n + 1) 1 den] at h1
  generalize (fl num den n + 1) * den = X at *
  omega
/-- The two holes beside the place do for all holes. -/
theorem Ran.all {num den i n : Nat} {s t : IdxS} (hd : 0 < den) (hn : 0 < n) (hle : num ≤ den) (h : Ran num den i n s (fl num den n) (min n (fl num den n + 1) + 1) t) : Ran num den i n s 0 (n + 1) t := by
  have hp : 0 < n * den := Nat.mul_pos hn hd
  have hf := fl_le (n := n) hd hle
  have low : ∀ j, j < fl num den n → farR num den n (fl num den n) < farR num den n j := fun j hj => (farR_lt hp).2 (far_low hd hj)
  have high : ∀ j, fl num den n + 1 < j → farR num den n (fl num den n + 1) < farR num den n j := fun j hj => (farR_lt hp).2 (far_high hd hj)
  rcases h with ⟨rfl, h1⟩ | ⟨k, k1, k2, rfl, h1, h2, h3⟩
  · refine .inl ⟨rfl, fun j _ hj => ?_⟩
    by_cases c1 : j < fl num den n
    · exact Rat.le_trans (h1 _ (Nat.le_refl _) (by omega)) (Rat.le_of_lt (low j c1))
    · by_cases c2 : fl num den n + 1 < j
      · exact Rat.le_trans (h1 (fl num den n + 1) (by omega) (by omega)) (Rat.le_of_lt (high j c2))
      · exact h1 j (by omega) (by omega)
  · refine .inr ⟨k, Nat.zero_le _, by omega, rfl, h1, fun j _ hj => ?_, fun j _ hj => ?_⟩
    · by_cases c1 : j < fl num den n
      · exact Rat.le_trans (h2 _ (Nat.le_refl _) (by omega)) (Rat.le_of_lt (low j c1))
      · by_cases c2 : fl num den n + 1 < j
        · exact Rat.le_trans (h2 (fl num den n + 1) (by omega) (by omega)) (Rat.le_of_lt (high j c2))
        · exact h2 j (by omega) (by omega)
    · by_cases c1 : j < fl num den n
      · exact rle_lt (h2 _ (Nat.le_refl _) (by omega)) (low j c1)
      · exact h3 j (by omega) hj
theorem far_zero {num den n : Nat} (hd : 0 < den) (hn : 0 < n) : farR num den n 0 = (num : Rat) / (den : Rat) := by
  unfold farR farN
  have h1 : (((0 : Nat) : Int) * den - (n : Int) * num).natAbs = n * num := by
    have e2 : (n : Int) * (num : Int) = ((n * num : Nat) : Int) := by simp
    rw [e2]
    omega
  rw [h1]
  have a1 : (n : Rat) ≠ 0 := by
    intro h
    have : n = 0 := by exact_mod_cast h
    omega
  have a2 : (den : Rat) ≠ 0 := by
    intro h
    have : den = 0 := by exact_mod_cast h
    omega
  push_cast
  grind
/-- The first plate, where nothing was found ahead. -/
theorem RanZ.all {num den n : Nat} {t : IdxS} (hd : 0 < den) (hn : 0 < n) (hle : num ≤ den) (h : RanZ num den 0 n (fl num den n) (min n (fl num den n + 1) + 1) t) : Ran num den 0 n (0, 0, (num : Rat) / (den : Rat)) 0 (n + 1) t := by
  have hp : 0 < n * den := Nat.mul_pos hn hd
  have hf := fl_le (n := n) hd hle
  have low : ∀ j, j < fl num den n → farR num den n (fl num den n) < farR num den n j := fun j hj => (farR_lt hp).2 (far_low hd hj)
  have high : ∀ j, fl num den n + 1 < j → farR num den n (fl num den n + 1) < farR num den n j := fun j hj => (farR_lt hp).2 (far_high hd hj)
  obtain ⟨k, k1, k2, rfl, h2, h3⟩ := h
  have ha : ∀ j, j < n + 1 → farR num den n k ≤ farR num den n j := fun j hj => by
    by_cases c1 : j < fl num den n
    · exact Rat.le_trans (h2 _ (Nat.le_refl _) (by omega)) (Rat.le_of_lt (low j c1))
    · by_cases c2 : fl num den n + 1 < j
      · exact Rat.le_trans (h2 (fl num den n + 1) (by omega) (by omega)) (Rat.le_of_lt (high j c2))
      · exact h2 j (by omega) (by omega)
  have hb : ∀ j, j < k → farR num den n k < farR num den n j := fun j hj => by
    by_cases c1 : j < fl num den n
    · exact rle_lt (h2 _ (Nat.le_refl _) (by omega)) (low j c1)
    · exact h3 j (by omega) hj
  rw [← far_zero hd hn]
  by_cases hk : k = 0
  · subst hk
    exact .inl ⟨rfl, fun j _ hj => ha j hj⟩
  · exact .inr ⟨k, Nat.zero_le _, by omega, rfl, hb 0 (by omega), fun j _ hj => ha j hj, fun j _ hj => hb j hj⟩
theorem Ran.step {num den m n : Nat} {ns : List Nat} {t : IdxS} (hd : 0 < den) (hn : 0 < n) (hle : num ≤ den) (he : ns.getD m 0 = n) (h : Ran num den m n (idxL num den ns m) (fl num den n) (min n (fl num den n + 1) + 1) t) : t = idxL num den ns (m + 1) := by
  have h1 := (h.all hd hn hle).unique (Ran.holes num den m n (idxL num den ns m) (n + 1))
  rw [h1]
  show _ = idxHoles num den m (ns.getD m 0) (idxL num den ns m) (ns.getD m 0 + 1)
  rw [he]
theorem RanZ.step {num den n : Nat} {ns : List Nat} {t : IdxS} (hd : 0 < den) (hn : 0 < n) (hle : num ≤ den) (he : ns.getD 0 0 = n) (h : RanZ num den 0 n (fl num den n) (min n (fl num den n + 1) + 1) t) : t = idxL num den ns 1 := by
  have h1 := (h.all hd hn hle).unique (Ran.holes num den 0 n (0, 0, (num : Rat) / (den : Rat)) (n + 1))
  rw [h1]
  show _ = idxHoles num den 0 (ns.getD 0 0) (idxL num den ns 0) (ns.getD 0 0 + 1)
  rw [he]
  rfl
end Go.Proofs.Ytbikpadjmmgpcaa
namespace Go.Proofs.Ytbikpadjmmgpcaa
open Go.RowKit Go.Shelf
set_option linter.unusedVariables false
set_option linter.unusedSimpArgs false
attribute [local go_sem] Oper.semAt_some
attribute [local go_sem ↓] Go.wp_at_zero Go.wp_at_succ
def idxArg (ps : List Int) (num den : Int) : Bool := decide (0 < ps.length) && (!(ps.any fun n => !within n 1 360) && (within den 1 1000 && within num 0 den))
def idxE (ps : List Int) (num den : Int) : Int := if 16 < ps.length then 4 else if idxArg ps num den then 0 else 2
noncomputable def idxF (ps : List Int) (num den : Int) : IdxS := idxL num.toNat den.toNat (ps.map Int.toNat) ps.length
noncomputable def idxV (ps : List Int) (num den : Int) : Int × Int × Except Int Rat :=
  if idxE ps num den = 0 then (((idxF ps num den).1 : Int), ((idxF ps num den).2.1 : Int), .ok (idxF ps num den).2.2) else (0, 0, .error (idxE ps num den))
def IdxPost (ps : List Int) (num den : Int) (w : World) (e : Ending) (w' : World) : Prop :=
  Le w w' ∧ ∃ v, e = .returned (.tuple #[.int .i64 (idxV ps num den).1, .int .i64 (idxV ps num den).2.1, v, .int .i64 (idxE ps num den)]) ∧ IsRes (fun _ => True) w' v (idxE ps num den) (idxV ps num den).2.2
theorem IdxPost.bad {ps : List Int} {num den : Int} {w w' : World} {E : Int} (hE : idxE ps num den = E) (h0 : E ≠ 0) (hle : Le w w') : IdxPost ps num den w (.returned (.tuple #[.int .i64 0, .int .i64 0, zeroF, .int .i64 E])) w' := by
  unfold IdxPost idxV
  rw [hE, if_neg h0]
  exact ⟨hle, _, rfl, rfl, rfl⟩
/-- Between two holes: what was found, if anything. -/
def PIdx (num den : Nat) (ns : List Nat) (i n lo k : Nat) : Option IdxS → Prop
  | none => i = 0 ∧ k = lo
  | some t => Rsz t.2.2 40 ∧ t.1 ≤ 1000 ∧ t.2.1 ≤ 1000 ∧ ((i = 0 ∧ RanZ num den 0 n lo k t) ∨ (0 < i ∧ Ran num den i n (idxL num den ns i) lo k t))
noncomputable def idxNext (num den i n : Nat) (o : Option IdxS) (k : Nat) : IdxS := match o with | none => (i, k, farR num den n k) | some t => idxHole num den i n t k
noncomputable def offO : Option IdxS → FracA
  | none => fracZ
  | some t => fracV t.2.2
def plateO : Option IdxS → Nat
  | none => 0
  | some t => t.1
def holeO : Option IdxS → Nat
  | none => 0
  | some t => t.2.1
open Classical in
/-- Whether a hole is taken. -/
noncomputable def takesO (num den n : Nat) (o : Option IdxS) (k : Nat) : Bool := match o with | none => true | some t => decide (farR num den n k < t.2.2)
theorem far_sz {num den n k : Nat} (hn : 0 < n * den) (hb : n * den ≤ 1000000) (hf : farN num den n k ≤ 1000000) : Rsz (farR num den n k) 40 := by
  have := over_sz (n := (farN num den n k : Int)) (d := ((n * den : Nat) : Int)) (by omega) (by omega) (by omega) (by omega) (by omega)
  exact this
theorem PIdx.next {num den : Nat} {ns : List Nat} {i n lo k : Nat} {o : Option IdxS} (h : PIdx num den ns i n lo k o) (hl : lo ≤ k) (hi : i ≤ 1000) (hk : k ≤ 1000) (hs : Rsz (farR num den n k) 40) : PIdx num den ns i n lo (k + 1) (some (idxNext num den i n o k)) := by
  cases o with
  | none =>
    obtain ⟨rfl, rfl⟩ := h
    exact ⟨hs, hi, hk, .inl ⟨rfl, RanZ.start _ _ _ _ _⟩⟩
  | some t =>
    obtain ⟨h1, h2, h3, h4⟩ := h
    have hp : Rsz (idxHole num den i n t k).2.2 40 ∧ (idxHole num den i n t k).1 ≤ 1000 ∧ (idxHole num den i n t k).2.1 ≤ 1000 := by
      unfold idxHole
      split
      · exact ⟨hs, hi, hk⟩
      · exact ⟨h1, h2, h3⟩
    refine ⟨hp.1, hp.2.1, hp.2.2, ?_⟩
    rcases h4 with ⟨rfl, h4⟩ | ⟨h0, h4⟩
    · exact .inl ⟨rfl, h4.next hl⟩
    · exact .inr ⟨h0, h4.next hl⟩
theorem takes_yes {num den i n : Nat} {o : Option IdxS} {k : Nat} (h : takesO num den n o k = true) : idxNext num den i n o k = (i, k, farR num den n k) := by
  cases o with
  | none => rfl
  | some t =>
    have h' : farR num den n k < t.2.2 := by simpa [takesO] using h
    exact if_pos h'
theorem takes_no {num den i n : Nat} {o : Option IdxS} {k : Nat} (h : takesO num den n o k = false) : ∃ t, o = some t ∧ idxNext num den i n o k = t := by
  cases o with
  | none => cases h
  | some t =>
    have h' : ¬ farR num den n k < t.2.2 := by simpa [takesO] using h
    exact ⟨t, rfl, if_neg h'⟩
theorem ratio_far {num den n k : Nat} {z D : Int} (hz : z = (farN num den n k : Int)) (hD : D = ((n * den : Nat) : Int)) (hn : 0 < n * den) (hs : Rsz (farR num den n k) 40) : ratioR z D = .ok (farR num den n k) := by
  unfold ratioR
  rw [if_neg (by omega), hz, hD]
  exact outR_ok hs
theorem cmp_far {o : Option IdxS} {num den n k : Nat} (hs : Rsz (farR num den n k) 40) (ho : ∀ t, o = some t → Rsz t.2.2 40) :
    (o = none ∧ cmpV (fracV (farR num den n k)) (offO o) = 0) ∨ (∃ t, o = some t ∧ (cmpV (fracV (farR num den n k)) (offO o) < 0 ↔ takesO num den n o k = true)) := by
  cases o with
  | none => exact .inl ⟨rfl, cmpV_none (by unfold okA offO; rw [fracZ_rat]; simp)⟩
  | some t =>
    refine .inr ⟨t, rfl, ?_⟩
    unfold offO takesO
    simp only
    rw [cmpV_some (fracV_rat hs) (fracV_rat (ho t rfl)), rsgn_lt]
    simp
theorem cmpV_bound (x y : FracA) : -1 ≤ cmpV x y ∧ cmpV x y ≤ 1 := by
  unfold cmpV
  split
  · unfold rsgn
    rename_i a b _ _
    have := Int.sign_trichotomy (a - b).num
    omega
  · omega
theorem PIdx.done0 {num den n hi : Nat} {ns : List Nat} {o : Option IdxS} {i : Nat} (hd : 0 < den) (hn : 0 < n) (hle : num ≤ den) (he : ns.getD i 0 = n) (hlt : fl num den n < hi) (hh : hi = min n (fl num den n + 1) + 1) (h : PIdx num den ns i n (fl num den n) hi o) :
    ∃ t, o = some t ∧ t = idxL num den ns (i + 1) ∧ Rsz t.2.2 40 ∧ t.1 ≤ 1000 ∧ t.2.1 ≤ 1000 := by
  cases o with
  | none => obtain ⟨-, h2⟩ := h; omega
  | some t =>
    obtain ⟨h1, h2, h3, h4⟩ := h
    refine ⟨t, rfl, ?_, h1, h2, h3⟩
    subst hh
    rcases h4 with ⟨rfl, h4⟩ | ⟨h0, h4⟩
    · exact h4.step hd hn hle he
    · exact h4.step hd hn hle he
theorem pf_idx_odd (n : Int) (w : World) : Calls Try.prog 19 #[.int .i64 n] w fun e w' => e = .returned (.bool (!within n 1 360)) ∧ w = w' := by
  go_enter Try.func19, Try.ntmps19
  go_wp2_with (first | (go_at_call 20; ((with_reducible refine (pf_within_pattern _ _ _ _).mono ?_); rintro e w' ⟨rfl, rfl⟩)))
  go_ret
  exact ⟨rfl, rfl⟩
theorem plain_Index1 : Plain Try.prog 19 := fun _ _ => by kernel_rfl
set_option maxRecDepth 100000 in
set_option maxHeartbeats 8000000 in
theorem pf_pat_Index_bad (ps : List Int) (num den : Int) (v : Value) (w : World) (hv : Ints w v ps) (hE : idxE ps num den ≠ 0) :
    Calls Try.prog 5 #[v, .int .i64 num, .int .i64 den] w (IdxPost ps num den w) := by
  have hcont := fun (W : World) (h : Le w W) => pf_ContainsFunc (fun n => !within n 1 360) 19 #[] v ps W (hv.below h) plain_Index1 fun x _ => pf_idx_odd x W
  obtain ⟨A, c, rfl, hlc, hcm, _, hr⟩ := hv
  unfold maxLen at hcm
  clear hr
  by_cases hbig : 16 < ps.length
  · have e1 : idxE ps num den = 4 := by unfold idxE; rw [if_pos hbig]
    obtain ⟨W0, hW0, hle, k0⟩ : ∃ W0, w.alloc (.cells #[.bool false, .slice none 0 0, .bool false, .slice none 0 0] 29) = W0 ∧ Le w W0 ∧ W0.heap[w.heap.size]? = some (.cells #[.bool false, .slice none 0 0, .bool false, .slice none 0 0] 29) := ⟨_, rfl, le_alloc _ _, alc_at _ _⟩
    obtain ⟨f0, f1, f2, f3⟩ := cells4 k0
    have g0 := frozen00 k0 0
    have g1 := frozen00 k0 1
    have g2 := frozen00 k0 2
    have g3 := frozen00 k0 3
    have hz := cells4 (heap_set4 (u0 := .bool false) (u1 := .slice none 0 0) (u2 := .bool false) (u3 := .slice none 0 0) k0)
    have hlez := le_set4 (u0 := .bool false) (u1 := .slice none 0 0) (u2 := .bool false) (u3 := .slice none 0 0) hle (Nat.le_refl _)
    have hfin := IdxPost.bad e1 (by decide) hlez
    have hle' := Lib.hid hle
    have k0' := Lib.hid k0
    have hcont' := Lib.hid hcont
    have e1' := Lib.hid e1
    have hfin' := Lib.hid hfin
    have hz' := Lib.hid hz
    have hlez' := Lib.hid hlez
    clear hlez hz hfin e1 hcont k0 hle
    go_enter Try.func5, Try.ntmps5
    go_wp2_with (fail)
    clear hW0
    obtain ⟨d0, d1, d2, d3⟩ := hz'.out
    exact bodyPost_ret (v := .tuple #[.int .i64 0, .int .i64 0, .agg #[.bool false, .slice none 0 0, .bool false, .slice none 0 0], .int .i64 4]) (by simp [results, Try.results5, go_sem, d0, d1, d2, d3]) rfl hfin'.out
  · have e0 : idxE ps num den = if idxArg ps num den then 0 else 2 := by unfold idxE; rw [if_neg hbig]
    have hfalse : idxArg ps num den = false := by
      rw [e0] at hE
      cases h : idxArg ps num den with
      | false => rfl
      | true => rw [h] at hE; exact absurd rfl hE
    have e1 : idxE ps num den = 2 := by rw [e0, hfalse]; rfl
    obtain ⟨W0, hW0, hle, k0⟩ : ∃ W0, w.alloc (.cells #[.bool false, .slice none 0 0, .bool false, .slice none 0 0] 29) = W0 ∧ Le w W0 ∧ W0.heap[w.heap.size]? = some (.cells #[.bool false, .slice none 0 0, .bool false, .slice none 0 0] 29) := ⟨_, rfl, le_alloc _ _, alc_at _ _⟩
    obtain ⟨f0, f1, f2, f3⟩ := cells4 k0
    have g0 := frozen00 k0 0
    have g1 := frozen00 k0 1
    have g2 := frozen00 k0 2
    have g3 := frozen00 k0 3
    have hz := cells4 (heap_set4 (u0 := .bool false) (u1 := .slice none 0 0) (u2 := .bool false) (u3 := .slice none 0 0) k0)
    have hlez := le_set4 (u0 := .bool false) (u1 := .slice none 0 0) (u2 := .bool false) (u3 := .slice none 0 0) hle (Nat.le_refl _)
    have hfin := IdxPost.bad e1 (by decide) hlez
    have hc := hcont W0 hle
    unfold idxArg at hfalse
    obtain ⟨X1, hX1⟩ : ∃ X, (ps.any fun n => !within n 1 360) = X := ⟨_, rfl⟩
    obtain ⟨X2, hX2⟩ : ∃ X, within den 1 1000 = X := ⟨_, rfl⟩
    obtain ⟨X3, hX3⟩ : ∃ X, within num 0 den = X := ⟨_, rfl⟩
    rw [hX1] at hc
    rw [hX1, hX2, hX3] at hfalse
    by_cases h0 : ps.length = 0
    · have hps : (ps.length : Int) = 0 := by omega
      rw [h0]
      have hle' := Lib.hid hle
      have k0' := Lib.hid k0
      have hcont' := Lib.hid hcont
      have e0' := Lib.hid e0
      have e1' := Lib.hid e1
      have hfin' := Lib.hid hfin
      have hz' := Lib.hid hz
      have hlez' := Lib.hid hlez
      have hc' := Lib.hid hc
      have hX1' := Lib.hid hX1
      have hX2' := Lib.hid hX2
      have hX3' := Lib.hid hX3
      have hfalse' := Lib.hid hfalse
      have hE' := Lib.hid hE
      have h0' := Lib.hid h0
      have hps' := Lib.hid hps
      clear hps h0 hE hfalse hX3 hX2 hX1 hc hlez hz hfin e1 e0 hcont k0 hle
      go_enter Try.func5, Try.ntmps5
      go_wp2_with (fail)
      clear hW0
      obtain ⟨d0, d1, d2, d3⟩ := hz'.out
      exact bodyPost_ret (v := .tuple #[.int .i64 0, .int .i64 0, .agg #[.bool false, .slice none 0 0, .bool false, .slice none 0 0], .int .i64 2]) (by simp [results, Try.results5, go_sem, d0, d1, d2, d3]) rfl hfin'.out
    · have hl0 : ((ps.length : Int) == 0) = false := by rw [Bool.eq_false_iff]; intro h; simp at h; exact h0 (by rw [h]; rfl)
      have hl1 : ¬ ps.length = 0 := h0
      have hpos : decide (0 < ps.length) = true := by simp; omega
      rw [hpos, Bool.true_and] at hfalse
      clear h0 hpos
      cases X1 with
      | true =>
        have hle' := Lib.hid hle
        have k0' := Lib.hid k0
        have hcont' := Lib.hid hcont
        have e0' := Lib.hid e0
        have e1' := Lib.hid e1
        have hfin' := Lib.hid hfin
        have hz' := Lib.hid hz
        have hlez' := Lib.hid hlez
        have hc' := Lib.hid hc
        have hX1' := Lib.hid hX1
        have hX2' := Lib.hid hX2
        have hX3' := Lib.hid hX3
        have hfalse' := Lib.hid hfalse
        have hE' := Lib.hid hE
        clear hE hfalse hX3 hX2 hX1 hc hlez hz hfin e1 e0 hcont k0 hle
        go_enter Try.func5, Try.ntmps5
        go_wp2_with (first | (go_at_call 21; ((with_reducible refine (hc'.out).mono ?_); rintro e w' ⟨rfl, rfl⟩)))
        clear hW0
        obtain ⟨d0, d1, d2, d3⟩ := hz'.out
        exact bodyPost_ret (v := .tuple #[.int .i64 0, .int .i64 0, .agg #[.bool false, .slice none 0 0, .bool false, .slice none 0 0], .int .i64 2]) (by simp [results, Try.results5, go_sem, d0, d1, d2, d3]) rfl hfin'.out
      | false =>
        cases X2 with
        | false =>
          have hle' := Lib.hid hle
          have k0' := Lib.hid k0
          have hcont' := Lib.hid hcont
          have e0' := Lib.hid e0
          have e1' := Lib.hid e1
          have hfin' := Lib.hid hfin
          have hz' := Lib.hid hz
          have hlez' := Lib.hid hlez
          have hc' := Lib.hid hc
          have hX1' := Lib.hid hX1
          have hX3' := Lib.hid hX3
          have hfalse' := Lib.hid hfalse
          have hE' := Lib.hid hE
          clear hE hfalse hX3 hX1 hc hlez hz hfin e1 e0 hcont k0 hle
          go_enter Try.func5, Try.ntmps5
          go_wp2_with (first | (go_at_call 21; ((with_reducible refine (hc'.out).mono ?_); rintro e w' ⟨rfl, rfl⟩)) | (go_at_call 20; ((with_reducible refine (pf_within_pattern _ _ _ _).mono ?_); rintro e w' ⟨rfl, rfl⟩; rw [hX2])))
          clear hW0
          obtain ⟨d0, d1, d2, d3⟩ := hz'.out
          exact bodyPost_ret (v := .tuple #[.int .i64 0, .int .i64 0, .agg #[.bool false, .slice none 0 0, .bool false, .slice none 0 0], .int .i64 2]) (by simp [results, Try.results5, go_sem, d0, d1, d2, d3]) rfl hfin'.out
        | true =>
          obtain rfl : X3 = false := by simpa using hfalse
          have hle' := Lib.hid hle
          have k0' := Lib.hid k0
          have hcont' := Lib.hid hcont
          have e0' := Lib.hid e0
          have e1' := Lib.hid e1
          have hfin' := Lib.hid hfin
          have hz' := Lib.hid hz
          have hlez' := Lib.hid hlez
          have hc' := Lib.hid hc
          have hX1' := Lib.hid hX1
          have hfalse' := Lib.hid hfalse
          have hE' := Lib.hid hE
          clear hE hfalse hX1 hc hlez hz hfin e1 e0 hcont k0 hle
          go_enter Try.func5, Try.ntmps5
          go_wp2_with (first | (go_at_call 21; ((with_reducible refine (hc'.out).mono ?_); rintro e w' ⟨rfl, rfl⟩)) | (go_at_call 20; ((with_reducible refine (pf_within_pattern _ _ _ _).mono ?_); rintro e w' ⟨rfl, rfl⟩; first | rw [hX2] | rw [hX3])))
          clear hW0
          obtain ⟨d0, d1, d2, d3⟩ := hz'.out
          exact bodyPost_ret (v := .tuple #[.int .i64 0, .int .i64 0, .agg #[.bool false, .slice none 0 0, .bool false, .slice none 0 0], .int .i64 2]) (by simp [results, Try.results5, go_sem, d0, d1, d2, d3]) rfl hfin'.out
end Go.Proofs.Ytbikpadjmmgpcaa
namespace Go.Proofs.Ytbikpadjmmgpcaa
open Go.RowKit Go.Shelf
set_option linter.unusedVariables false
set_option linter.unusedSimpArgs false
attribute [local go_sem] Oper.semAt_some
attribute [local go_sem ↓] Go.wp_at_zero Go.wp_at_succ
theorem idx_facts {ps : List Int} {num den : Int} (h : idxE ps num den = 0) : 0 < ps.length ∧ ps.length ≤ 16 ∧ (ps.any fun n => !within n 1 360) = false ∧ within den 1 1000 = true ∧ within num 0 den = true ∧
    (∀ j (hj : j < ps.length), 1 ≤ ps[j] ∧ ps[j] ≤ 360) ∧ ∃ U D : Nat, num = (U : Int) ∧ den = (D : Int) ∧ 1 ≤ D ∧ D ≤ 1000 ∧ U ≤ D := by
  unfold idxE at h
  split at h
  · cases h
  · rename_i hb
    cases ha : idxArg ps num den with
    | false => rw [ha] at h; cases h
    | true =>
      unfold idxArg at ha
      simp only [Bool.and_eq_true, decide_eq_true_eq, Bool.not_eq_true'] at ha
      obtain ⟨h1, h2, h3, h4⟩ := ha
      have a1 := within_iff.1 h3
      have a2 := within_iff.1 h4
      refine ⟨h1, by omega, h2, h3, h4, fun j hj => ?_, num.toNat, den.toNat, by omega, by omega, by omega, by omega, by omega⟩
      have := List.any_eq_false.1 h2 ps[j] (List.getElem_mem hj)
      have h5 : within ps[j] 1 360 = true := by simpa using this
      exact within_iff.1 h5
theorem IdxPost.good {ps : List Int} {num den : Int} {w w' : World} {v : Value} {t : IdxS} (hE : idxE ps num den = 0) (ht : t = idxF ps num den) (hle : Le w w') (hv : FracT w' v t.2.2) : IdxPost ps num den w (.returned (.tuple #[.int .i64 (t.1 : Int), .int .i64 (t.2.1 : Int), v, .int .i64 0])) w' := by
  unfold IdxPost idxV
  rw [hE, if_pos rfl, ← ht]
  exact ⟨hle, v, rfl, hv, rfl⟩
/-- What the box of the best so far reads as. -/
def OffB (W : World) (B : Nat) (o : Option IdxS) : Prop := ∃ A c A' c', W.heap[B]? = some (.cells #[.bool (offO o).sn, .slice A (offO o).gn.length c, .bool (offO o).sd, .slice A' (offO o).gd.length c'] 29) ∧
  IsFracA (fun _ => True) W (.agg #[.bool (offO o).sn, .slice A (offO o).gn.length c, .bool (offO o).sd, .slice A' (offO o).gd.length c']) (offO o) ∧ ∀ t, o = some t → FracT W (.agg #[.bool (offO o).sn, .slice A (offO o).gn.length c, .bool (offO o).sd, .slice A' (offO o).gd.length c']) t.2.2
theorem OffB.le {W W' : World} {B : Nat} {o : Option IdxS} (h : OffB W B o) (hb : Le W W') : OffB W' B o := by
  obtain ⟨A, c, A', c', h1, h2, h3⟩ := h
  exact ⟨A, c, A', c', box_later hb h1, h2.le hb, fun t ht => (h3 t ht).le hb⟩
theorem OffB.lt {W : World} {B : Nat} {o : Option IdxS} (h : OffB W B o) : B < W.heap.size := by
  obtain ⟨A, c, A', c', h1, -⟩ := h
  exact (Array.getElem?_eq_some_iff.1 h1).1
theorem offO_den {o : Option IdxS} (h : o ≠ none) : (offO o).gd.length ≠ 0 := by
  cases o with
  | none => exact absurd rfl h
  | some t =>
    intro h0
    have h1 : (dg t.2.2.den).length = 0 := h0
    have : t.2.2.den = 0 := by rw [← nv_dg t.2.2.den, List.eq_nil_of_length_eq_zero h1]; rfl
    exact t.2.2.den_nz this
theorem natMap_get (ps : List Int) {j : Nat} (hj : j < ps.length) {n : Nat} (h : ps[j] = (n : Int)) : (ps.map Int.toNat).getD j 0 = n := by
  rw [getD_of_lt (by simpa using hj)]
  simp [h]
/-- One hole: its fraction, the comparison, and what is kept. -/
def idxSlots (o : Option IdxS) (a b : Value) : Prop := a = .int .i64 (plateO o : Nat) ∧ b = .int .i64 (holeO o : Nat)
set_option maxRecDepth 100000 in
set_option maxHeartbeats 8000000 in
theorem pf_pat_Index_ok (ps : List Int) (num den : Int) (v : Value) (w : World) (hv : Ints w v ps) (hE : idxE ps num den = 0) :
    Calls Try.prog 5 #[v, .int .i64 num, .int .i64 den] w (IdxPost ps num den w) := by
  have hcont := fun (W : World) (h : Le w W) => pf_ContainsFunc (fun n => !within n 1 360) 19 #[] v ps W (hv.below h) plain_Index1 fun x _ => pf_idx_odd x W
  obtain ⟨hl0, hl16, hX1, hX2, hX3, hps, U, D, rfl, rfl, hD1, hD2, hUD⟩ := idx_facts hE
  obtain ⟨la, lo, c, rfl, hla, hlc, hcm, hcl⟩ := Ints.cells hv hl0
  unfold maxLen at hcm
  obtain ⟨W0, hW0, hle, k0⟩ : ∃ W0, w.alloc (.cells #[.bool false, .slice none 0 0, .bool false, .slice none 0 0] 29) = W0 ∧ Le w W0 ∧ W0.heap[w.heap.size]? = some (.cells #[.bool false, .slice none 0 0, .bool false, .slice none 0 0] 29) := ⟨_, rfl, le_alloc _ _, alc_at _ _⟩
  have hc := hcont W0 hle
  rw [hX1] at hc
  have hoff : OffB W0 w.heap.size none := ⟨none, 0, none, 0, k0, zeroF_isA _ _, fun t h => by cases h⟩
  have hl1 : ((ps.length : Int) == 0) = false := by rw [Bool.eq_false_iff]; intro h; simp at h; rw [h] at hl0; exact absurd hl0 (by simp)
  have hl2 : ¬ ps.length = 0 := by omega
  have hfin : idxF ps (U : Int) (D : Int) = idxL U D (ps.map Int.toNat) ps.length := rfl
  generalize hns : ps.map Int.toNat = ns at hfin
  have hget : ∀ j (hj : j < ps.length), ∃ n : Nat, ps[j] = (n : Int) ∧ 1 ≤ n ∧ n ≤ 360 ∧ ns.getD j 0 = n := fun j hj => by
    obtain ⟨h1, h2⟩ := hps j hj
    have e : ps[j] = (ps[j].toNat : Int) := by omega
    exact ⟨ps[j].toNat, e, by omega, by omega, by rw [← hns]; exact natMap_get ps hj e⟩
  have hle' := Lib.hid hle
  have k0' := Lib.hid k0
  have hcont' := Lib.hid hcont
  have hfin' := Lib.hid hfin
  have hc' := Lib.hid hc
  have hX1' := Lib.hid hX1
  have hE' := Lib.hid hE
  have hcl' := Lib.hid hcl
  have hps' := Lib.hid hps
  have hget' := Lib.hid hget
  have hoff' := Lib.hid hoff
  have hv' := Lib.hid hv
  have hns' := Lib.hid hns
  clear hns hv hoff hget hps hcl hE hX1 hc hfin hcont k0 hle
  go_enter Try.func5, Try.ntmps5
  go_wp2_with (first | (go_at_call 21; ((with_reducible refine (hc'.out).mono ?_); rintro e w' ⟨rfl, rfl⟩)) | (go_at_call 20; ((with_reducible refine (pf_within_pattern _ _ _ _).mono ?_); rintro e w' ⟨rfl, rfl⟩; first | rw [hX2] | rw [hX3])))
  clear hW0
  go_loopw [47, 6, 7] (fun ix a b wr => ∃ i : Nat, i ≤ ps.length ∧ ix = .int .i64 i ∧ ∃ o, idxSlots o a b ∧ Hid (Le w wr) ∧ Hid (OffB wr w.heap.size o) ∧ Hid ((i = 0 ∧ o = none) ∨ (0 < i ∧ ∃ t, o = some t ∧ t = idxL U D ns i ∧ Rsz t.2.2 40 ∧ t.1 ≤ 1000 ∧ t.2.1 ≤ 1000))) (fun ix _ _ _ => ps.length - (intOf ix).toNat)
  case atStart => exact ⟨0, Nat.zero_le _, rfl, none, ⟨rfl, rfl⟩, hle', hoff', Lib.hid (.inl ⟨rfl, rfl⟩)⟩
  case round =>
    obtain ⟨i, hi, rfl, o, ⟨rfl, rfl⟩, hlw, hob, hst⟩ := hrel
    by_cases hlt : i < ps.length
    · obtain ⟨n, hn0, hn1, hn2, hn3⟩ := hget'.out i hlt
      have hck : wr.cell? ⟨la, lo + i, none⟩ = some (.int .i64 (n : Int)) := by
        rw [← hn0]
        exact (hlw.out.cell (p := ⟨la, lo + i, none⟩) hla).trans (hcl'.out i hlt)
      obtain ⟨P, hP⟩ : ∃ P, n * U = P := ⟨_, rfl⟩
      have hPb : P ≤ 360000 := by rw [← hP]; exact Nat.le_trans (Nat.mul_le_mul hn2 (Nat.le_trans hUD hD2)) (by decide)
      have e1 : (n : Int) * (U : Int) = (P : Int) := by rw [← hP]; simp
      obtain ⟨F0, hF0⟩ : ∃ F0, P / D = F0 := ⟨_, rfl⟩
      have hfl : fl U D n = F0 := by unfold fl; rw [hP, hF0]
      have hFn : F0 ≤ n := by rw [← hfl]; exact fl_le (by omega) hUD
      have q1 : (P : Int) / (D : Int) = (F0 : Int) := by rw [← hF0]; simp
      have q2 : (P : Int).tdiv (D : Int) = (F0 : Int) := by rw [Int.tdiv_eq_ediv_of_nonneg (by omega)]; exact q1
      have hDz : ((D : Int) == 0) = false := by simp; omega
      have hDz2 : ¬ (D : Int) = 0 := by omega
      have hfe := hfl
      obtain ⟨M, hM⟩ : ∃ M, min n (F0 + 1) = M := ⟨_, rfl⟩
      have hMn : M ≤ n := by omega
      have hFM : F0 ≤ M := by omega
      obtain ⟨DD, hDD⟩ : ∃ DD, n * D = DD := ⟨_, rfl⟩
      have e3 : (n : Int) * (D : Int) = (DD : Int) := by rw [← hDD]; simp
      have hDDb : DD ≤ 360000 := by rw [← hDD]; exact Nat.le_trans (Nat.mul_le_mul hn2 hD2) (by decide)
      have hDD0 : 0 < DD := by rw [← hDD]; exact Nat.mul_pos (by omega) (by omega)
      have hstart : PIdx U D ns i n F0 F0 o := by
        rcases hst.out with ⟨rfl, rfl⟩ | ⟨h0, t, rfl, ht, h1, h2, h3⟩
        · exact ⟨rfl, rfl⟩
        · exact ⟨h1, h2, h3, .inr ⟨h0, by rw [ht]; exact Ran.start _ _ _ _ _ _⟩⟩
      have hdone : ∀ o2, PIdx U D ns i n F0 (M + 1) o2 → ∃ t, o2 = some t ∧ t = idxL U D ns (i + 1) ∧ Rsz t.2.2 40 ∧ t.1 ≤ 1000 ∧ t.2.1 ≤ 1000 := fun o2 h => by
        rw [← hfe] at h
        exact PIdx.done0 (by omega) (by omega) hUD hn3 (by rw [hfe]; omega) (by rw [hfe, hM]) h
      obtain ⟨wo, hwo⟩ : ∃ wo, wo = wr := ⟨_, rfl⟩
      rw [← hwo] at hlw hob hck
      subst hwo
      have hmin : (F0 + 1 < n ∧ M = F0 + 1) ∨ (n ≤ F0 + 1 ∧ M = n) := by omega
      have hn0' := Lib.hid hn0
      have hn3' := Lib.hid hn3
      have hP' := Lib.hid hP
      have hF0' := Lib.hid hF0
      have hfl' := Lib.hid hfl
      have hfe' := Lib.hid hfe
      have hDD' := Lib.hid hDD
      have hdone' := Lib.hid hdone
      have hM' := Lib.hid hM
      have hst' := Lib.hid hst
      clear hst hM hdone hDD hfe hfl hF0 hP hn3 hn0
      rcases hmin with ⟨hm1, hm2⟩ | ⟨hm1, hm2⟩
      all_goals
        have hm3 := Nat.le_of_eq hm2
        have hm4 := Nat.le_of_eq hm2.symm
        have hm2' := Lib.hid hm2
        clear hm2
        go_wp2
        go_loopw [13, 6, 7] (fun kx a b wi => ∃ k : Nat, F0 ≤ k ∧ k ≤ M + 1 ∧ kx = .int .i64 k ∧ ∃ o2, idxSlots o2 a b ∧ Hid (Le w wi) ∧ Hid (OffB wi w.heap.size o2) ∧ Hid (PIdx U D ns i n F0 k o2)) (fun kx _ _ _ => M + 1 - (intOf kx).toNat)
        case atStart => exact ⟨F0, Nat.le_refl _, by omega, rfl, o, ⟨rfl, rfl⟩, hlw, hob, Lib.hid hstart⟩
        case round =>
          obtain ⟨k, hk1, hk2, rfl, o2, ⟨rfl, rfl⟩, hli, hoi, hpi⟩ := hrel
          by_cases hkM : k ≤ M
          · obtain ⟨X, hX⟩ : ∃ X, k * D = X := ⟨_, rfl⟩
            have e2 : (k : Int) * (D : Int) = (X : Int) := by rw [← hX]; simp
            have hXb : X ≤ 361000 := by rw [← hX]; exact Nat.le_trans (Nat.mul_le_mul (show k ≤ 361 by omega) hD2) (by decide)
            obtain ⟨R, hR⟩ : ∃ R, farR U D n k = R := ⟨_, rfl⟩
            have hfar : farN U D n k = ((X : Int) - (P : Int)).natAbs := by unfold farN; rw [e2, e1]
            have hsR : Rsz R 40 := by rw [← hR]; exact far_sz (by rw [hDD'.out]; exact hDD0) (by rw [hDD'.out]; omega) (by rw [hfar]; omega)
            have hnx := PIdx.next hpi.out hk1 (by omega) (by omega) (by rw [hR]; exact hsR)
            have hrat : ∀ z : Int, z = (((X : Int) - (P : Int)).natAbs : Int) → ratioR z (DD : Int) = .ok R := fun z hz => by
              rw [← hR]
              exact ratio_far (by rw [hz, hfar]) (by rw [hDD'.out]) (by rw [hDD'.out]; exact hDD0) (by rw [hR]; exact hsR)
            have hcm := cmp_far (o := o2) (by rw [hR]; exact hsR) (num := U) (den := D) (n := n) (k := k) (fun t ht => by
              have := hpi.out
              rw [ht] at this
              exact this.1)
            rw [hR] at hcm
            have hmax : ∃ z : Int, z = (((X : Int) - (P : Int)).natAbs : Int) ∧ -1000000 ≤ z ∧ z ≤ 1000000 ∧ ((X < P ∧ z = (P : Int) - (X : Int)) ∨ (P ≤ X ∧ z = (X : Int) - (P : Int))) := by
              rcases Nat.lt_or_ge X P with h | h
              · exact ⟨(P : Int) - X, by omega, by omega, by omega, .inl ⟨h, rfl⟩⟩
              · exact ⟨(X : Int) - P, by omega, by omega, by omega, .inr ⟨h, rfl⟩⟩
            obtain ⟨z, hz0, hz1, hz2, hz3⟩ := hmax
            have hrz := hrat z hz0
            have hcall := fun (W : World) => pf_Ratio (fun _ => True) z (DD : Int) W (Up.any _) (by omega) (by omega) (by omega) (by omega)
            simp only [hrz] at hcall
            clear hrat hrz hfar
            have hX' := Lib.hid hX
            have hR' := Lib.hid hR
            have hnx' := Lib.hid hnx
            have hcm' := Lib.hid hcm
            have hz0' := Lib.hid hz0
            have hcall' := Lib.hid hcall
            have hsR' := Lib.hid hsR
            clear hsR hcall hz0 hcm hnx hR hX
            rcases hz3 with ⟨hz4, hz5⟩ | ⟨hz4, hz5⟩
            all_goals
              subst hz5
              have z1 : (X : Int) ≤ 361000 := by omega
              first
                | (have m1 : (X : Int) - (P : Int) < (P : Int) - (X : Int) := by omega
                   have m2 : ¬ (P : Int) - (X : Int) ≤ (X : Int) - (P : Int) := by omega
                   have m3 : True := trivial)
                | (have m1 : (P : Int) - (X : Int) ≤ (X : Int) - (P : Int) := by omega
                   have m2 : ¬ (X : Int) - (P : Int) < (P : Int) - (X : Int) := by omega
                   have m3 : True := trivial)
              go_wp2_with (fail)
              go_at_call 6
              refine (hcall'.out _).mono ?_
              rintro e w1 ⟨hle1, vx, cc, rfl, hfr, rfl⟩
              have hfr0 := hfr
              obtain ⟨A5, c5, B5, d5, rfl, -, -⟩ := hfr
              obtain ⟨W2, hW2, hle2, k5⟩ : ∃ W2, w1.alloc (.cells #[.bool (rneg R), .slice A5 (dg (rnum R)).length c5, .bool false, .slice B5 (dg R.den).length d5] 29) = W2 ∧ Le w1 W2 ∧ W2.heap[w1.heap.size]? = some (.cells #[.bool (rneg R), .slice A5 (dg (rnum R)).length c5, .bool false, .slice B5 (dg R.den).length d5] 29) := ⟨_, rfl, le_alloc _ _, alc_at _ _⟩
              have hle12 := hle1.trans hle2
              have hfr2 := hfr0.le hle2
              obtain ⟨A6, c6, A7, c7, kO0, hOA, hOF⟩ := hoi.out.le hle12
              obtain ⟨a0, a1, a2, a3⟩ := cells4 k5
              obtain ⟨b0, b1, b2, b3⟩ := cells4 kO0
              have hcmp := pf_Compare (fracV R) (offO o2) _ _ W2 hfr2.isA hOA
              have hcb := cmpV_bound (fracV R) (offO o2)
              obtain ⟨tk, htk⟩ : ∃ b, takesO U D n o2 k = b := ⟨_, rfl⟩
              obtain ⟨N3, hN3⟩ : ∃ N, (offO o2).gd.length = N := ⟨_, rfl⟩
              have hways : (i = 0 ∧ N3 = 0 ∧ tk = true) ∨ (N3 ≠ 0 ∧ (cmpV (fracV R) (offO o2) < 0 ↔ tk = true)) := by
                rcases hcm'.out with ⟨h1, -⟩ | ⟨t, h1, h2⟩
                · subst h1
                  exact .inl ⟨hpi.out.1, hN3.symm, htk.symm⟩
                · subst h1
                  exact .inr ⟨by rw [← hN3]; exact offO_den (by simp), by rw [← htk]; exact h2⟩
              obtain ⟨cv, hcv⟩ : ∃ cv, cmpV (fracV R) (offO o2) = cv := ⟨_, rfl⟩
              obtain ⟨ev, hev⟩ : ∃ ev, okE (okA (fracV R) && okA (offO o2)) = ev := ⟨_, rfl⟩
              rw [hcv] at hways hcb
              rw [hcv, hev, hN3] at hcmp
              rw [hN3] at b3
              have hOb : w.heap.size < w1.heap.size := Nat.lt_of_lt_of_le hoi.out.lt hle1.size
              have hne1 : ¬ w.heap.size = w1.heap.size := by omega
              have hne2 : ¬ w1.heap.size = w.heap.size := by omega
              have hle1' := Lib.hid hle1
              have hfr0' := Lib.hid hfr0
              have hle2' := Lib.hid hle2
              have k5' := Lib.hid k5
              have hle12' := Lib.hid hle12
              have hfr2' := Lib.hid hfr2
              have kO0' := Lib.hid kO0
              have hOA' := Lib.hid hOA
              have hOF' := Lib.hid hOF
              have hcmp' := Lib.hid hcmp
              have htk' := Lib.hid htk
              have hN3' := Lib.hid hN3
              have hcv' := Lib.hid hcv
              have hev' := Lib.hid hev
              have hways' := Lib.hid hways
              clear hways hev hcv hN3 htk hcmp hOF hOA kO0 hfr2 hle12 k5 hle2 hfr0 hle1
              go_wp2_with (fail)
              clear hW2
              go_at_call 7
              refine hcmp'.out.mono ?_
              rintro e w3 ⟨rfl, hle3⟩
              have kO := box_later hle3 kO0'.out
              have k6 := box_later hle3 k5'.out
              clear a0 a1 a2 a3 b0 b1 b2 b3
              obtain ⟨a0, a1, a2, a3⟩ := cells4 k6
              obtain ⟨b0, b1, b2, b3⟩ := cells4 kO
              rw [hN3'.out] at b3
              have g0 := frozen00 kO 0
              have g1 := frozen00 kO 1
              have g2 := frozen00 kO 2
              have g3 := frozen00 kO 3
              have hle13 := hle12'.out.trans hle3
              have hT : tk = true → Le w ((((w3.setCell ⟨w.heap.size, 0, none⟩ (.bool (rneg R))).setCell ⟨w.heap.size, 1, none⟩ (.slice A5 (dg (rnum R)).length c5)).setCell ⟨w.heap.size, 2, none⟩ (.bool false)).setCell ⟨w.heap.size, 3, none⟩ (.slice B5 (dg R.den).length d5)).drew ∧
                  OffB ((((w3.setCell ⟨w.heap.size, 0, none⟩ (.bool (rneg R))).setCell ⟨w.heap.size, 1, none⟩ (.slice A5 (dg (rnum R)).length c5)).setCell ⟨w.heap.size, 2, none⟩ (.bool false)).setCell ⟨w.heap.size, 3, none⟩ (.slice B5 (dg R.den).length d5)).drew w.heap.size (some (i, k, R)) ∧ PIdx U D ns i n F0 (k + 1) (some (i, k, R)) := fun ht => by
                have h1 : FracT ((((w3.setCell ⟨w.heap.size, 0, none⟩ (.bool (rneg R))).setCell ⟨w.heap.size, 1, none⟩ (.slice A5 (dg (rnum R)).length c5)).setCell ⟨w.heap.size, 2, none⟩ (.bool false)).setCell ⟨w.heap.size, 3, none⟩ (.slice B5 (dg R.den).length d5)).drew (.agg #[.bool (rneg R), .slice A5 (dg (rnum R)).length c5, .bool false, .slice B5 (dg R.den).length d5]) R :=
                  ((hfr2'.out.le hle3).touch (noInt4 kO) (touch_set4 _ _ _ _ _ _)).le ((Below.refl _ _).drew)
                refine ⟨Below.drew (le_set4 (hli.out.trans hle13) (Nat.le_refl _)), ⟨A5, c5, B5, d5, heap_set4 kO, h1.isA, fun t ht => ?_⟩, ?_⟩
                · injection ht with ht
                  subst ht
                  exact h1
                · have h2 := takes_yes (i := i) (htk'.out.trans ht)
                  have h3 := hnx'.out
                  rw [h2, hR'.out] at h3
                  exact h3
              have hNT : tk = false → Le w w3 ∧ OffB w3 w.heap.size o2 ∧ PIdx U D ns i n F0 (k + 1) o2 := fun ht => by
                refine ⟨hli.out.trans hle13, hoi.out.le hle13, ?_⟩
                obtain ⟨t, h1, h2⟩ := takes_no (i := i) (htk'.out.trans ht)
                have h3 := hnx'.out
                rw [h2, ← h1] at h3
                exact h3
              have hle3' := Lib.hid hle3
              have kO' := Lib.hid kO
              have k6' := Lib.hid k6
              have hle13' := Lib.hid hle13
              have hT' := Lib.hid hT
              have hNT' := Lib.hid hNT
              clear hNT hT hle13 k6 kO hle3
              rcases (show i = 0 ∨ 0 < i by omega) with hi0 | hi0
              · have hib : ((i : Int) == 0) = true := by simp; omega
                have hib2 : (i : Int) = 0 := by omega
                have hi0' := Lib.hid hi0
                have hib2' := Lib.hid hib2
                clear hib2 hi0
                rcases hways'.out with ⟨-, hN, htt⟩ | ⟨hN, htt⟩
                · have hNb : ((N3 : Int) == 0) = true := by simp; omega
                  have hN' := Lib.hid hN
                  have htt' := Lib.hid htt
                  clear htt hN
                  go_wp2
                  go_region
                  all_goals
                    go_wp2
                    go_roundw
                    case rel =>
                      obtain ⟨p1, p2, p3⟩ := hT'.out htt'.out
                      exact ⟨k + 1, by omega, by omega, by go_num, some (i, k, R), ⟨rfl, rfl⟩, Lib.hid p1, Lib.hid p2, Lib.hid p3⟩
                    case measure => simp [intOf]; omega
                · have hNb : ((N3 : Int) == 0) = false := by simp; omega
                  by_cases hc0 : cv < 0
                  · have hN' := Lib.hid hN
                    have htt' := Lib.hid htt
                    clear htt hN
                    go_wp2
                    go_region
                    all_goals
                      go_wp2
                      go_roundw
                      case rel =>
                        obtain ⟨p1, p2, p3⟩ := hT'.out (htt'.out.1 hc0)
                        exact ⟨k + 1, by omega, by omega, by go_num, some (i, k, R), ⟨rfl, rfl⟩, Lib.hid p1, Lib.hid p2, Lib.hid p3⟩
                      case measure => simp [intOf]; omega
                  · have hN' := Lib.hid hN
                    have htt' := Lib.hid htt
                    clear htt hN
                    go_wp2
                    go_roundw
                    case rel =>
                      obtain ⟨p1, p2, p3⟩ := hNT'.out (by rw [← Bool.not_eq_true]; intro h; have := htt'.out.2 h; omega)
                      exact ⟨k + 1, by omega, by omega, by go_num, o2, ⟨rfl, rfl⟩, Lib.hid p1, Lib.hid p2, Lib.hid p3⟩
                    case measure => simp [intOf]; omega
              · have hib : ((i : Int) == 0) = false := by simp; omega
                rcases hways'.out with ⟨hi2, -⟩ | ⟨hN, htt⟩
                · omega
                · by_cases hc0 : cv < 0
                  · have hN' := Lib.hid hN
                    have htt' := Lib.hid htt
                    clear htt hN
                    go_wp2
                    go_region
                    all_goals
                      go_wp2
                      go_roundw
                      case rel =>
                        obtain ⟨p1, p2, p3⟩ := hT'.out (htt'.out.1 hc0)
                        exact ⟨k + 1, by omega, by omega, by go_num, some (i, k, R), ⟨rfl, rfl⟩, Lib.hid p1, Lib.hid p2, Lib.hid p3⟩
                      case measure => simp [intOf]; omega
                  · have hN' := Lib.hid hN
                    have htt' := Lib.hid htt
                    clear htt hN
                    go_wp2
                    go_roundw
                    case rel =>
                      obtain ⟨p1, p2, p3⟩ := hNT'.out (by rw [← Bool.not_eq_true]; intro h; have := htt'.out.2 h; omega)
                      exact ⟨k + 1, by omega, by omega, by go_num, o2, ⟨rfl, rfl⟩, Lib.hid p1, Lib.hid p2, Lib.hid p3⟩
                    case measure => simp [intOf]; omega
          · obtain rfl : k = M + 1 := by omega
            obtain ⟨t, rfl, ht, h1, h2, h3⟩ := hdone'.out o2 hpi.out
            go_wp2
            go_roundw
            case rel => exact ⟨i + 1, by omega, by go_num, some t, ⟨rfl, rfl⟩, hli, hoi, Lib.hid (.inr ⟨by omega, t, rfl, ht, h1, h2, h3⟩)⟩
            case measure => simp [intOf]; omega
    · obtain rfl : i = ps.length := by omega
      rcases hst.out with ⟨h0, -⟩ | ⟨h0, t, rfl, ht, h1, h2, h3⟩
      · omega
      · obtain ⟨A, c1, A', c2, kk, -, hfr⟩ := hob.out
        have hfr := hfr t rfl
        obtain ⟨d0, d1, d2, d3⟩ := cells4 kk
        have g0 := frozen00 kk 0
        have g1 := frozen00 kk 1
        have g2 := frozen00 kk 2
        have g3 := frozen00 kk 3
        have hz := cells4 (heap_set4 (W := wr) (u0 := .bool (offO (some t)).sn) (u1 := .slice A (offO (some t)).gn.length c1) (u2 := .bool (offO (some t)).sd) (u3 := .slice A' (offO (some t)).gd.length c2) kk)
        have hlez := Below.drew (le_set4 (u0 := .bool (offO (some t)).sn) (u1 := .slice A (offO (some t)).gn.length c1) (u2 := .bool (offO (some t)).sd) (u3 := .slice A' (offO (some t)).gd.length c2) hlw.out (Nat.le_refl _))
        have hfr2 := (FracL.touch hfr (noInt4 kk) (touch_set4 wr w.heap.size (.bool (offO (some t)).sn) (.slice A (offO (some t)).gn.length c1) (.bool (offO (some t)).sd) (.slice A' (offO (some t)).gd.length c2))).le ((Below.refl _ _).drew)
        have hpost := IdxPost.good hE'.out (by rw [hfin'.out]; exact ht) hlez hfr2
        generalize (offO (some t)).sn = o1 at *
        generalize (offO (some t)).gn.length = o2 at *
        generalize (offO (some t)).sd = o3 at *
        generalize (offO (some t)).gd.length = o4 at *
        have kk' := Lib.hid kk
        have hfr' := Lib.hid hfr
        have hz' := Lib.hid hz
        have hlez' := Lib.hid hlez
        have hfr2' := Lib.hid hfr2
        have hpost' := Lib.hid hpost
        have ht' := Lib.hid ht
        clear ht hpost hfr2 hlez hz hfr kk
        go_wp2
        go_region
        all_goals
          go_wp2
          obtain ⟨e0, e1, e2, e3⟩ := hz'.out
          exact bodyPost_ret (v := .tuple #[.int .i64 (t.1 : Int), .int .i64 (t.2.1 : Int), .agg #[.bool o1, .slice A o2 c1, .bool o3, .slice A' o4 c2], .int .i64 0]) (by simp [results, Try.results5, go_sem, e0, e1, e2, e3, plateO, holeO]) rfl hpost'.out
end Go.Proofs.Ytbikpadjmmgpcaa
