/- Plain laws of a changed program: begun elsewhere, turned, mirrored, made backwards. -/
import Derived.Test.YtnboppombhibbaaClosesLaw
import Derived.Test.YtnboppombhibbaaP4Kind
namespace Go.Proofs.Ytnboppombhibbaa
open Go.RowKit
set_option linter.unusedVariables false
set_option linter.unusedSimpArgs false
def sg (mi : Bool) (i : Int) : Int := if mi then -i else i
theorem sg_dvd {n : Int} (mi : Bool) {i : Int} : n ∣ sg mi i ↔ n ∣ i := by
  cases mi
  · exact Iff.rfl
  · exact Int.dvd_neg
/-- q is p, begun at the cut a, turned by b, and mirrored or made backwards. -/
structure Rel (p q : Prog) (a b : Int) (mi ba : Bool) : Prop where
  len : q.ros.length = p.ros.length
  cnt : q.shifts.length = p.shifts.length
  adv : q.adv = p.adv
  hh : ∀ i, hP q i = hP p (sg mi i - b)
  sh : ∀ j, (p.ros.length : Int) ∣ shAt q j - sg mi (if ba then -(shAt p (a - 1 - j)) else shAt p (a + j))
theorem Rel.perEq {p q : Prog} {a b : Int} {mi ba : Bool} (h : Rel p q a b mi ba) (hp : BenchFacts p) (hq : BenchFacts q) : per q = per p := by
  have key : ∀ c : Int, (per q : Int) ∣ c ↔ (per p : Int) ∣ c := fun c => by
    rw [← hP_per hq, ← hP_per hp]
    constructor
    · intro hs i
      cases mi with
      | false =>
        have h1 := hs (i + b)
        rw [h.hh, h.hh] at h1
        simp only [sg, Bool.false_eq_true, if_false] at h1
        rwa [show i + b + c - b = i + c by omega, show i + b - b = i by omega] at h1
      | true =>
        have h1 := hs (-(i + b) - c)
        rw [h.hh, h.hh] at h1
        simp only [sg, if_true] at h1
        rw [show -(-(i + b) - c + c) - b = i by omega, show -(-(i + b) - c) - b = i + c by omega] at h1
        exact h1.symm
    · intro hs i
      rw [h.hh, h.hh]
      cases mi with
      | false =>
        simp only [sg, Bool.false_eq_true, if_false]
        rw [show i + c - b = (i - b) + c by omega]
        exact hs _
      | true =>
        simp only [sg, if_true]
        have := hs (-(i + c) - b)
        rw [show -(i + c) - b + c = -i - b by omega] at this
        exact this.symm
  have h1 := Int.natCast_dvd_natCast.1 ((key (per p)).2 (Int.dvd_refl _))
  have h2 := Int.natCast_dvd_natCast.1 ((key (per q)).1 (Int.dvd_refl _))
  exact Nat.dvd_antisymm h1 h2
theorem per_ros {p : Prog} (hp : BenchFacts p) {c : Int} (h : (p.ros.length : Int) ∣ c) : (per p : Int) ∣ c := Int.dvd_trans (Int.natCast_dvd_natCast.2 (per_pos hp).2.2) h
theorem Rel.pt {p q : Prog} {a b : Int} {mi ba : Bool} (h : Rel p q a b mi ba) (hp : BenchFacts p) (hq : BenchFacts q) (j : Int) : (per p : Int) ∣ ptI q j - sg mi (ptI p (toI ba a j) - ptI p a) := by
  have hs : ∀ j, (per p : Int) ∣ shAt q j - sg mi (if ba then -(shAt p (a - 1 - j)) else shAt p (a + j)) := fun j => per_ros hp (h.sh j)
  have step : ∀ j, ptI q (j + 1) - sg mi (ptI p (toI ba a (j + 1)) - ptI p a) = ptI q j - sg mi (ptI p (toI ba a j) - ptI p a) + (shAt q j - sg mi (if ba then -(shAt p (a - 1 - j)) else shAt p (a + j))) := fun j => by
    have e1 := pt_succ hq.sh0 j
    cases ba with
    | false =>
      have e2 := pt_succ hp.sh0 (a + j)
      simp only [toI, Bool.false_eq_true, if_false]
      rw [show a + (j + 1) = a + j + 1 by omega, e1, e2]
      cases mi <;> simp only [sg, if_true, if_false, Bool.false_eq_true] <;> omega
    | true =>
      have e2 := pt_succ hp.sh0 (a - 1 - j)
      simp only [toI, if_true]
      rw [show a - 1 - j + 1 = a - j by omega] at e2
      rw [show a - (j + 1) = a - 1 - j by omega, e1, e2]
      cases mi <;> simp only [sg, if_true, if_false, Bool.false_eq_true] <;> omega
  refine int_ind (P := fun j => (per p : Int) ∣ ptI q j - sg mi (ptI p (toI ba a j) - ptI p a)) ?_ ?_ ?_ j
  · have e : ptI q 0 - sg mi (ptI p (toI ba a 0) - ptI p a) = 0 := by
      rw [pt_zero]
      cases mi <;> cases ba <;> simp [sg, toI]
    show _ ∣ ptI q 0 - sg mi (ptI p (toI ba a 0) - ptI p a)
    rw [e]
    exact Int.dvd_zero _
  · intro j hj
    show _ ∣ ptI q (j + 1) - sg mi (ptI p (toI ba a (j + 1)) - ptI p a)
    rw [step]
    exact Int.dvd_add hj (hs j)
  · intro j hj
    have h1 : (per p : Int) ∣ ptI q (j + 1) - sg mi (ptI p (toI ba a (j + 1)) - ptI p a) := hj
    rw [step] at h1
    have := Int.dvd_sub h1 (hs j)
    rwa [show ∀ x y : Int, x + y - y = x by omega] at this
/-- The move that takes q to p. -/
theorem Rel.takes {p q : Prog} {a b : Int} {mi ba : Bool} (h : Rel p q a b mi ba) (hp : BenchFacts p) (hq : BenchFacts q) : Takes q p a (ptI p a - b) mi ba := by
  intro j i
  rw [h.hh]
  refine hP_eq hp ?_
  have h1 := h.pt hp hq j
  cases mi with
  | false =>
    simp only [sg, Bool.false_eq_true, if_false] at h1 ⊢
    rwa [show ptI p a - b + i - ptI p (toI ba a j) - (i - ptI q j - b) = ptI q j - (ptI p (toI ba a j) - ptI p a) by omega]
  | true =>
    simp only [sg, if_true] at h1 ⊢
    rw [show ptI p a - b - i - ptI p (toI ba a j) - (-(i - ptI q j) - b) = -(ptI q j - -(ptI p (toI ba a j) - ptI p a)) by omega]
    exact Int.dvd_neg.2 h1
/-- Differences of q's phases are differences of p's. -/
theorem Rel.diff {p q : Prog} {a b : Int} {mi ba : Bool} (h : Rel p q a b mi ba) (hp : BenchFacts p) (hq : BenchFacts q) (j m : Int) : (per p : Int) ∣ (ptI q (j + m) - ptI q j) - sg mi (ptI p (toI ba a (j + m)) - ptI p (toI ba a j)) := by
  have := Int.dvd_sub (h.pt hp hq (j + m)) (h.pt hp hq j)
  cases mi with
  | false =>
    simp only [sg, Bool.false_eq_true, if_false] at this ⊢
    rwa [show ∀ x y z u v : Int, x - (y - z) - (u - (v - z)) = x - u - (y - v) by omega] at this
  | true =>
    simp only [sg, if_true] at this ⊢
    rwa [show ∀ x y z u v : Int, x - -(y - z) - (u - -(v - z)) = x - u - -(y - v) by omega] at this
theorem toI_back (ba : Bool) (a j : Int) : toI ba a (if ba then a - j else j - a) = j := by
  cases ba <;> simp [toI] <;> omega
/-- All differences over m cuts are those of p. -/
theorem Rel.all {p q : Prog} {a b : Int} {mi ba : Bool} (h : Rel p q a b mi ba) (hp : BenchFacts p) (hq : BenchFacts q) (m s : Int) :
    (∀ j, (per p : Int) ∣ ptI q (j + m) - ptI q j - sg (mi ^^ ba) s) ↔ ∀ j, (per p : Int) ∣ ptI p (j + m) - ptI p j - s := by
  constructor
  · intro hq' j
    cases ba with
    | false =>
      have h1 := hq' (j - a)
      have h2 := h.diff hp hq (j - a) m
      simp only [toI, Bool.false_eq_true, if_false, Bool.xor_false] at h1 h2
      rw [show a + (j - a + m) = j + m by omega, show a + (j - a) = j by omega] at h2
      have h3 := Int.dvd_sub h1 h2
      have h4 : (per p : Int) ∣ sg mi (ptI p (j + m) - ptI p j - s) := by
        cases mi <;> simp only [sg, if_true, if_false, Bool.false_eq_true] at h3 ⊢
        · rwa [show ∀ x y z : Int, x - y - (x - z) = z - y by omega] at h3
        · rwa [show ∀ x y z : Int, x - -y - (x - -z) = -(z - y) by omega] at h3
      exact (sg_dvd mi).1 h4
    | true =>
      have h1 := hq' (a - j - m)
      have h2 := h.diff hp hq (a - j - m) m
      simp only [toI, if_true, Bool.xor_true] at h1 h2
      rw [show a - (a - j - m + m) = j by omega, show a - (a - j - m) = j + m by omega] at h2
      have h3 := Int.dvd_sub h1 h2
      have h4 : (per p : Int) ∣ sg mi (ptI p (j + m) - ptI p j - s) := by
        cases mi <;> simp only [sg, if_true, if_false, Bool.false_eq_true, Bool.not_true, Bool.not_false] at h3 ⊢
        · rw [show ∀ x y z u : Int, x - -y - (x - (z - u)) = z - u + y by omega] at h3
          have := Int.dvd_neg.2 h3
          rwa [show -(ptI p j - ptI p (j + m) + s) = ptI p (j + m) - ptI p j - s by omega] at this
        · rw [show ∀ x y z u : Int, x - y - (x - -(z - u)) = -(z - u) - y by omega] at h3
          rw [show -(ptI p (j + m) - ptI p j - s) = -(-(ptI p j - ptI p (j + m)) - s) by omega]
          exact Int.dvd_neg.2 h3
      exact (sg_dvd mi).1 h4
  · intro hp' j
    have h2 := h.diff hp hq j m
    cases ba with
    | false =>
      have h1 := (sg_dvd mi).2 (hp' (a + j))
      simp only [toI, Bool.false_eq_true, if_false, Bool.xor_false] at h2 ⊢
      rw [show a + (j + m) = a + j + m by omega] at h2
      have h3 := Int.dvd_add h2 h1
      cases mi <;> simp only [sg, if_true, if_false, Bool.false_eq_true] at h3 ⊢
      · rwa [show ∀ x y z : Int, x - y + (y - z) = x - z by omega] at h3
      · rwa [show ∀ x y z : Int, x - -y + -(y - z) = x - -z by omega] at h3
    | true =>
      have h1 := (sg_dvd mi).2 (hp' (a - j - m))
      simp only [toI, if_true, Bool.xor_true] at h2 ⊢
      rw [show a - j - m + m = a - j by omega] at h1
      rw [show a - (j + m) = a - j - m by omega] at h2
      cases mi <;> simp only [sg, if_true, if_false, Bool.false_eq_true, Bool.not_true, Bool.not_false] at h1 h2 ⊢
      · have h3 := Int.dvd_sub h2 h1
        rwa [show ∀ x u v z : Int, x - (u - v) - (v - u - z) = x - -z by omega] at h3
      · have h3 := Int.dvd_sub h2 h1
        rwa [show ∀ x u v z : Int, x - -(u - v) - -(v - u - z) = x - z by omega] at h3
theorem motif_iff {p : Prog} (hp : BenchFacts p) (m : Nat) : (∃ s, ∀ j : Int, (per p : Int) ∣ ptI p (j + m) - ptI p j - s) ↔ motifN p ∣ m := by
  constructor
  · rintro ⟨s, h⟩
    exact Int.natCast_dvd_natCast.1 (cuts_motif hp h)
  · rintro ⟨k, rfl⟩
    refine ⟨k * ptI p (motifN p), fun j => ?_⟩
    have := pt_motif_mul hp j k
    rwa [Int.natCast_mul]
theorem close_iff {p : Prog} (hp : BenchFacts p) (m : Nat) : (∀ j : Int, (per p : Int) ∣ ptI p (j + m) - ptI p j - 0) ↔ closeN p ∣ m := by
  constructor
  · exact cuts_close hp
  · rintro ⟨k, rfl⟩ j
    have := pt_close_mul hp j k
    rwa [Int.sub_zero, Int.natCast_mul]
theorem Rel.motif {p q : Prog} {a b : Int} {mi ba : Bool} (h : Rel p q a b mi ba) (hp : BenchFacts p) (hq : BenchFacts q) : motifN q = motifN p := by
  have hpe := h.perEq hp hq
  have key : ∀ m : Nat, motifN q ∣ m ↔ motifN p ∣ m := fun m => by
    rw [← motif_iff hq, ← motif_iff hp, hpe]
    constructor
    · rintro ⟨s, hs⟩
      refine ⟨sg (mi ^^ ba) s, (h.all hp hq m _).1 fun j => ?_⟩
      have e : sg (mi ^^ ba) (sg (mi ^^ ba) s) = s := by cases mi <;> cases ba <;> simp [sg]
      rw [e]
      exact hs j
    · rintro ⟨s, hs⟩
      exact ⟨_, (h.all hp hq m s).2 hs⟩
  exact Nat.dvd_antisymm ((key _).2 (Nat.dvd_refl _)) ((key _).1 (Nat.dvd_refl _))
theorem Rel.close {p q : Prog} {a b : Int} {mi ba : Bool} (h : Rel p q a b mi ba) (hp : BenchFacts p) (hq : BenchFacts q) : closeN q = closeN p := by
  have hpe := h.perEq hp hq
  have key : ∀ m : Nat, closeN q ∣ m ↔ closeN p ∣ m := fun m => by
    rw [← close_iff hq, ← close_iff hp, hpe, ← h.all hp hq m 0]
    have e : sg (mi ^^ ba) 0 = 0 := by cases mi <;> cases ba <;> simp [sg]
    rw [e]
  exact Nat.dvd_antisymm ((key _).2 (Nat.dvd_refl _)) ((key _).1 (Nat.dvd_refl _))
theorem Rel.turn {p q : Prog} {a b : Int} {mi ba : Bool} (h : Rel p q a b mi ba) (hp : BenchFacts p) (hq : BenchFacts q) : turnI q = turnI p ∨ turnI p + turnI q = per p ∧ 0 < turnI p := by
  have hpe := h.perEq hp hq
  have hm := h.motif hp hq
  have h1 := turn_dvd hp
  have h2 := turn_dvd hq
  have h3 := (h.all hp hq (motifN p) (ptI p (motifN p))).2 (pt_motif hp) 0
  have b1 := turn_bound hp
  have b2 := turn_bound hq
  rw [hpe, hm] at h2
  rw [hpe] at b2
  rw [Int.zero_add, pt_zero, Int.sub_zero] at h3
  have hn := (per_pos hp).1
  have h4 : (per p : Int) ∣ turnI q - sg (mi ^^ ba) (turnI p) := by
    have := Int.dvd_sub (Int.dvd_sub h3 h2) ((sg_dvd (mi ^^ ba)).2 (Int.dvd_neg.2 h1))
    cases hb : (mi ^^ ba) <;> rw [hb] at this <;> simp only [sg, if_true, if_false, Bool.false_eq_true] at this ⊢
    · rwa [show ∀ x y z u : Int, x - y - (x - z) - -(y - u) = z - u by omega] at this
    · rwa [show ∀ x y z u : Int, x - -y - (x - z) - - -(y - u) = z - -u by omega] at this
  obtain ⟨c, hc⟩ := h4
  cases hb : (mi ^^ ba) <;> rw [hb] at hc <;> simp only [sg, if_true, if_false, Bool.false_eq_true] at hc
  · left
    rcases Int.lt_trichotomy c 0 with h5 | h5 | h5
    · have : (per p : Int) * c ≤ per p * (-1) := Int.mul_le_mul_of_nonneg_left (by omega) (by omega)
      omega
    · subst h5; simp at hc; omega
    · have : (per p : Int) * 1 ≤ per p * c := Int.mul_le_mul_of_nonneg_left (by omega) (by omega)
      omega
  · rcases Int.lt_trichotomy c 0 with h5 | h5 | h5
    · have : (per p : Int) * c ≤ per p * (-1) := Int.mul_le_mul_of_nonneg_left (by omega) (by omega)
      omega
    · subst h5; simp at hc
      left; omega
    · by_cases h6 : c = 1
      · subst h6
        right
        omega
      · have : (per p : Int) * 2 ≤ per p * c := Int.mul_le_mul_of_nonneg_left (by omega) (by omega)
        omega
theorem cntF_rev (f : Int → Bool) : ∀ (m : Nat) (c : Int), cntF (fun j => f (c - j)) m 0 = cntF f m (c - m + 1)
  | 0, c => by simp [cntF]
  | m + 1, c => by
    rw [cntF_succ, cntF_rev f m c, cntF_first]
    rw [show c - ((m + 1 : Nat) : Int) + 1 + 1 = c - m + 1 by omega, show c - (0 + (m : Int)) = c - ((m + 1 : Nat) : Int) + 1 by omega]
    omega
theorem cntF_fn (f g : Int → Bool) (n : Nat) (h : ∀ c, f c = g c) : cntF f n 0 = cntF g n 0 := by
  have : f = g := funext h
  rw [this]
theorem ne_of_dvd {n x y : Int} (h : n ∣ x ↔ n ∣ y) : x % n ≠ 0 ↔ y % n ≠ 0 := by
  rw [Int.dvd_iff_emod_eq_zero, Int.dvd_iff_emod_eq_zero] at h
  exact not_congr h
theorem movedC_cnt {p : Prog} (hp : BenchFacts p) (m : Nat) (hm : m ≤ p.shifts.length) : movedC p m = cntF (fun j => decide (shAt p j % (per p : Int) ≠ 0)) m 0 := by
  unfold movedC cntF
  have e : p.shifts.take m = (List.range m).map (fun k : Nat => shAt p (k : Int)) := by
    apply List.ext_getElem (by simp; omega)
    intro i h1 h2
    have hi : i < m := by simp at h2; exact h2
    rw [List.getElem_take, List.getElem_map, List.getElem_range, shAt_nat p i (by omega)]
  rw [e, List.countP_map]
  congr 1
  funext k
  simp
theorem Rel.moved {p q : Prog} {a b : Int} {mi ba : Bool} (h : Rel p q a b mi ba) (hp : BenchFacts p) (hq : BenchFacts q) : movedC q (motifN q) = movedC p (motifN p) := by
  have hpe := h.perEq hp hq
  have hm := h.motif hp hq
  have hml := motif_le hp
  rw [hm, movedC_cnt hq _ (by rw [h.cnt]; exact hml.2), movedC_cnt hp _ hml.2, hpe]
  have hper : ∀ c : Int, (fun j => decide (shAt p j % (per p : Int) ≠ 0)) (c + motifN p) = (fun j => decide (shAt p j % (per p : Int) ≠ 0)) c := fun c => by
    show decide (shAt p (c + motifN p) % (per p : Int) ≠ 0) = decide (shAt p c % (per p : Int) ≠ 0)
    rw [emod_of_dvd (sh_motif hp c)]
  have hz : ∀ j, (shAt q j % (per p : Int) ≠ 0) ↔ ((if ba then -(shAt p (a - 1 - j)) else shAt p (a + j)) % (per p : Int) ≠ 0) := fun j => by
    have h1 := per_ros hp (h.sh j)
    have h2 := emod_of_dvd h1
    rw [h2]
    exact ne_of_dvd (sg_dvd mi)
  cases ba with
  | false =>
    have e : cntF (fun j => decide (shAt q j % (per p : Int) ≠ 0)) (motifN p) 0 = cntF (fun j => (fun j => decide (shAt p j % (per p : Int) ≠ 0)) (j - -a)) (motifN p) 0 := cntF_fn _ _ _ fun c => by
      have := hz c
      simp only [Bool.false_eq_true, if_false] at this
      show decide _ = decide _
      rw [show c - -a = a + c by omega, Bool.eq_iff_iff, decide_eq_true_iff, decide_eq_true_iff]
      exact this
    rw [e]
    exact cntF_moved _ _ _ hper (-a) fun c => rfl
  | true =>
    have e : cntF (fun j => decide (shAt q j % (per p : Int) ≠ 0)) (motifN p) 0 = cntF (fun j => (fun j => decide (shAt p j % (per p : Int) ≠ 0)) (a - 1 - j)) (motifN p) 0 := cntF_fn _ _ _ fun c => by
      have := hz c
      simp only [if_true] at this
      show decide _ = decide _
      rw [Bool.eq_iff_iff, decide_eq_true_iff, decide_eq_true_iff, this]
      exact ne_of_dvd Int.dvd_neg
    rw [e, cntF_rev (fun j => decide (shAt p j % (per p : Int) ≠ 0)) (motifN p) (a - 1)]
    exact cntF_any _ _ hper _
theorem Rel.kind {p q : Prog} {a b : Int} {mi ba : Bool} (h : Rel p q a b mi ba) (hp : BenchFacts p) (hq : BenchFacts q) : kindI q = kindI p := by
  unfold kindI
  rw [h.perEq hp hq, h.moved hp hq, h.motif hp hq]
  have b1 := turn_bound hp
  have b2 := turn_bound hq
  rw [h.perEq hp hq] at b2
  rcases h.turn hp hq with h1 | ⟨h1, h2⟩
  · rw [h1]
  · unfold kindV
    have e1 : ((turnI q).toNat = 0) = ((turnI p).toNat = 0) := propext (by constructor <;> intro h <;> omega)
    have e2 : (2 * (turnI q).toNat = per p) = (2 * (turnI p).toNat = per p) := propext (by constructor <;> intro h <;> omega)
    simp only [e1, e2]
theorem gap_le {p : Prog} (hp : BenchFacts p) (x j : Int) : gapI p ≤ p.adv + (hP p (x - shAt p j) - hP p x) := by
  have hr := hp.ros0
  have h0 := Int.emod_nonneg (x + phaseI p j) (show (p.ros.length : Int) ≠ 0 by omega)
  have h1 := Int.emod_lt_of_pos (x + phaseI p j) (show (0 : Int) < (p.ros.length : Int) by omega)
  obtain ⟨m, hm⟩ : ∃ m : Nat, (x + phaseI p j) % (p.ros.length : Int) = (m : Int) := ⟨_, (Int.toNat_of_nonneg h0).symm⟩
  have h2 := gap_least hp j m (by omega)
  rw [stepI_eq hp j m (by omega)] at h2
  have d := Int.mul_ediv_add_emod (x + phaseI p j) (p.ros.length : Int)
  have e1 : hP p (x - shAt p j) = hP p ((m : Int) - phaseI p j - shAt p j) := hP_mod p _ _ (emod_of_dvd (by
    rw [show x - shAt p j - ((m : Int) - phaseI p j - shAt p j) = p.ros.length * ((x + phaseI p j) / p.ros.length) by omega]
    exact Int.dvd_mul_right _ _))
  have e2 : hP p x = hP p ((m : Int) - phaseI p j) := hP_mod p _ _ (emod_of_dvd (by
    rw [show x - ((m : Int) - phaseI p j) = p.ros.length * ((x + phaseI p j) / p.ros.length) by omega]
    exact Int.dvd_mul_right _ _))
  rw [e1, e2]
  unfold hP
  rw [← Int.mul_sub]
  exact h2
theorem gap_at {p : Prog} (hp : BenchFacts p) : ∃ x j : Int, gapI p = p.adv + (hP p (x - shAt p j) - hP p x) := by
  obtain ⟨k, m, hk, hm, he⟩ := gap_found hp
  rw [stepI_eq hp _ m hm] at he
  refine ⟨(m : Int) - phaseI p k, k, ?_⟩
  unfold hP
  rw [← Int.mul_sub]
  exact he.symm
theorem Rel.gap {p q : Prog} {a b : Int} {mi : Bool} (h : Rel p q a b mi false) (hp : BenchFacts p) (hq : BenchFacts q) : gapI q = gapI p := by
  have key : ∀ x j : Int, hP q (x - shAt q j) - hP q x = hP p ((sg mi x - b) - shAt p (a + j)) - hP p (sg mi x - b) := fun x j => by
    rw [h.hh, h.hh]
    congr 1
    refine hP_mod p _ _ (emod_of_dvd ?_)
    have h1 := h.sh j
    simp only [Bool.false_eq_true, if_false] at h1
    cases mi with
    | false =>
      simp only [sg, Bool.false_eq_true, if_false] at h1 ⊢
      rw [show x - shAt q j - b - (x - b - shAt p (a + j)) = -(shAt q j - shAt p (a + j)) by omega]
      exact Int.dvd_neg.2 h1
    | true =>
      simp only [sg, if_true] at h1 ⊢
      rwa [show -(x - shAt q j) - b - (-x - b - shAt p (a + j)) = shAt q j - -(shAt p (a + j)) by omega]
  obtain ⟨x, j, e1⟩ := gap_at hq
  obtain ⟨y, k, e2⟩ := gap_at hp
  have l1 := gap_le hp (sg mi x - b) (a + j)
  have l2 := gap_le hq (sg mi (y + b)) (k - a)
  rw [key, h.adv] at e1 l2
  have e3 : sg mi (sg mi (y + b)) - b = y := by cases mi <;> simp [sg] <;> omega
  rw [e3, show a + (k - a) = k by omega] at l2
  omega
/-- What Same says of them. -/
theorem allow_self (how : Nat) (hh : how ≤ 3) : allowB how (how % 2 == 1) (how / 2 % 2 == 1) = true := by
  have : ∀ h, h < 4 → allowB h (h % 2 == 1) (h / 2 % 2 == 1) = true := by decide
  exact this how (by omega)
theorem allow_or (how more : Nat) (hh : how ≤ 3) (hm : more ≤ 3) : allowB (how ||| more) (how % 2 == 1) (how / 2 % 2 == 1) = true ∧ (how ||| more) ≤ 3 := by
  have : ∀ h, h < 4 → ∀ m, m < 4 → allowB (h ||| m) (h % 2 == 1) (h / 2 % 2 == 1) = true ∧ (h ||| m) ≤ 3 := by decide
  exact this how (by omega) more (by omega)
theorem Rel.same {p q : Prog} {a b : Int} {how more : Nat} (hh : how ≤ 3) (hm : more ≤ 3) (h : Rel p q a b (how % 2 == 1) (how / 2 % 2 == 1)) (h1 : progE p = 0) (h2 : progE q = 0) :
    sameE p q how = 0 ∧ sameE q p (how ||| more) = 0 ∧ allowB how (sameM p q how).mirror (sameM p q how).back = true := by
  have hp := benchFacts h1
  have hq := benchFacts h2
  have hl1 : likeB p q = true := (likeB_iff p q).2 ⟨h.len.symm, (h.perEq hp hq).symm, (h.close hp hq).symm⟩
  have hl2 : likeB q p = true := (likeB_iff q p).2 ⟨h.len, h.perEq hp hq, h.close hp hq⟩
  have c1 := (close_le hp).2.2.1
  have c2 := (close_le hq).2.2.1
  have d1 := (per_pos hp).1
  have d2 := (per_pos hq).1
  have a1 := allMv_of hp hq hl1 (allow_self how hh) (h.takes hp hq).inv (by omega) (by omega)
  have a2 := allMv_of hq hp hl2 (allow_or how more hh hm).1 (h.takes hp hq) (by omega) (by omega)
  have s1 : sameE p q how = 0 := sameE_zero.2 ⟨h1, h2, hh, a1⟩
  refine ⟨s1, sameE_zero.2 ⟨h2, h1, (allow_or how more hh hm).2, a2⟩, ?_⟩
  unfold sameM
  rw [if_pos s1]
  cases hL : allMv p q how with
  | nil => exact absurd hL a1
  | cons x l =>
    have hx : x ∈ allMv p q how := by rw [hL]; simp
    exact ((mem_allMv hp hq how x).1 hx).2.2.2.1
end Go.Proofs.Ytnboppombhibbaa
