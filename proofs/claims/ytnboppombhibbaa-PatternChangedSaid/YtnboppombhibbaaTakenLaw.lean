/- What taken tells of shapes is what Takes says. The first symmetry is the move that changes nothing. The symmetries of a program are a group, and how many there are. -/
import Derived.Test.YtnboppombhibbaaL4Taken
import Derived.Test.YtnboppombhibbaaCarryLaw
import Derived.Test.YtnboppombhibbaaBase
namespace Go.Proofs.Ytnboppombhibbaa
open Go.RowKit
set_option linter.unusedVariables false
set_option linter.unusedSimpArgs false
theorem shL_ok {p : Prog} (h : progE p = 0) {j : Int} (hj : -5000 ≤ j ∧ j ≤ 5000) : shL p j = shapeL p j := by
  have h1 : cutE p j = 0 := by
    unfold cutE
    rw [if_neg (by simp [h]), within_iff.2 hj]
    rfl
  unfold shL
  rw [h1, onOk_zero]
theorem atR_shape {p : Prog} (hp : BenchFacts p) (j i : Int) : atR (shapeL p j) i = hP p (i - ptI p j) := by
  have hr := hp.ros0
  have hl := shapeL_length p j
  have h0 := Int.emod_nonneg i (show (p.ros.length : Int) ≠ 0 by omega)
  have h1 := Int.emod_lt_of_pos i (show (0 : Int) < (p.ros.length : Int) by omega)
  obtain ⟨m, hm⟩ : ∃ m : Nat, i % (p.ros.length : Int) = (m : Int) := ⟨_, (Int.toNat_of_nonneg h0).symm⟩
  have hml : m < p.ros.length := by omega
  have e1 : atR (shapeL p j) i = atR (shapeL p j) (m : Int) := atR_mod _ _ _ (by rw [hl, hm]; exact (Int.emod_eq_of_lt (by omega) (by omega)).symm)
  rw [e1, atR_nat m (by rw [hl]; exact hml), shapeL_get p j m hml, Int.mul_comm]
  have e2 : hP p (i - phaseI p j) = hP p ((m : Int) - phaseI p j) := hP_mod p _ _ (emod_of_dvd (by
    have h3 := Int.mul_ediv_add_emod i (p.ros.length : Int)
    rw [show i - phaseI p j - ((m : Int) - phaseI p j) = p.ros.length * (i / p.ros.length) by omega]
    exact Int.dvd_mul_right _ _))
  have e3 : hP p (i - ptI p j) = hP p (i - phaseI p j) := hP_eq hp (by
    rw [show i - ptI p j - (i - phaseI p j) = phaseI p j - ptI p j by omega]
    exact phase_dvd hp j)
  rw [e3, e2]
  rfl
theorem toI_mod (n : Int) (b : Bool) (c j : Int) : n ∣ toI b c j - toI b c (j % n) := by
  have h := Int.mul_ediv_add_emod j n
  cases b with
  | true =>
    show n ∣ (c - j) - (c - j % n)
    rw [show (c - j) - (c - j % n) = -(n * (j / n)) by omega]
    exact Int.dvd_neg.2 (Int.dvd_mul_right _ _)
  | false =>
    show n ∣ (c + j) - (c + j % n)
    rw [show (c + j) - (c + j % n) = n * (j / n) by omega]
    exact Int.dvd_mul_right _ _
theorem taken_iff {p : Prog} (h : progE p = 0) {c t : Int} {mi ba : Bool} {j : Int} (hj : -5000 ≤ j ∧ j ≤ 5000) (hto : -5000 ≤ toI ba c j ∧ toI ba c j ≤ 5000) :
    takenB (shL p j) (shL p (toI ba c j)) t mi = true ↔ ∀ i : Int, hP p (toI mi t i - ptI p (toI ba c j)) = hP p (i - ptI p j) := by
  have hp := benchFacts h
  have hr := hp.ros0
  rw [shL_ok h hj, shL_ok h hto]
  unfold takenB
  rw [decide_eq_true_iff, shapeL_length, shapeL_length]
  constructor
  · rintro ⟨-, -, hall⟩ i
    have h0 := Int.emod_nonneg i (show (p.ros.length : Int) ≠ 0 by omega)
    have h1 := Int.emod_lt_of_pos i (show (0 : Int) < (p.ros.length : Int) by omega)
    obtain ⟨m, hm⟩ : ∃ m : Nat, i % (p.ros.length : Int) = (m : Int) := ⟨_, (Int.toNat_of_nonneg h0).symm⟩
    have h2 := hall m (by omega)
    rw [atR_shape hp, atR_shape hp, ← hm] at h2
    have e1 : hP p (toI mi t i - ptI p (toI ba c j)) = hP p (toI mi t (i % p.ros.length) - ptI p (toI ba c j)) := hP_mod p _ _ (emod_of_dvd (by
      have h3 := toI_mod (p.ros.length : Int) mi t i
      rw [show toI mi t i - ptI p (toI ba c j) - (toI mi t (i % (p.ros.length : Int)) - ptI p (toI ba c j)) = toI mi t i - toI mi t (i % (p.ros.length : Int)) by omega]
      exact h3))
    have e2 : hP p (i - ptI p j) = hP p (i % p.ros.length - ptI p j) := hP_mod p _ _ (emod_of_dvd (by
      have h3 := Int.mul_ediv_add_emod i (p.ros.length : Int)
      rw [show i - ptI p j - (i % (p.ros.length : Int) - ptI p j) = p.ros.length * (i / p.ros.length) by omega]
      exact Int.dvd_mul_right _ _))
    rw [e1, e2]
    exact h2
  · intro hall
    refine ⟨by omega, rfl, fun i hi => ?_⟩
    rw [atR_shape hp, atR_shape hp]
    exact hall i
/-- All cuts of one closing taken: the move takes the pattern to itself. -/
theorem all_taken {p : Prog} (h : progE p = 0) {c t : Int} {mi ba : Bool} (hc : 0 ≤ c ∧ c < closeN p) :
    (∀ j : Nat, j < closeN p → takenB (shL p j) (shL p (toI ba c j)) t mi = true) ↔ Takes p p c t mi ba := by
  have hp := benchFacts h
  have hcl := close_le hp
  have hto : ∀ j : Nat, j < closeN p → -5000 ≤ toI ba c j ∧ toI ba c j ≤ 5000 := fun j hj => by cases ba <;> simp [toI] <;> omega
  constructor
  · intro hall j i
    have h0 := Int.emod_nonneg j (show (closeN p : Int) ≠ 0 by omega)
    have h1 := Int.emod_lt_of_pos j (show (0 : Int) < (closeN p : Int) by omega)
    obtain ⟨m, hm⟩ : ∃ m : Nat, j % (closeN p : Int) = (m : Int) := ⟨_, (Int.toNat_of_nonneg h0).symm⟩
    have h2 := (taken_iff h (by omega) (hto m (by omega))).1 (hall m (by omega)) i
    have e1 : (per p : Int) ∣ ptI p (toI ba c j) - ptI p (toI ba c m) := pt_same hp (by rw [← hm]; exact toI_mod _ _ _ _)
    have e2 : (per p : Int) ∣ ptI p j - ptI p m := pt_same hp (by
      have h3 := Int.mul_ediv_add_emod j (closeN p : Int)
      rw [show j - (m : Int) = closeN p * (j / closeN p) by omega]
      exact Int.dvd_mul_right _ _)
    show hP p (toI mi t i - ptI p (toI ba c j)) = hP p (i - ptI p j)
    rw [hP_eq hp (i := toI mi t i - ptI p (toI ba c j)) (j := toI mi t i - ptI p (toI ba c m)) (by rw [show toI mi t i - ptI p (toI ba c j) - (toI mi t i - ptI p (toI ba c m)) = -(ptI p (toI ba c j) - ptI p (toI ba c m)) by omega]; exact Int.dvd_neg.2 e1), h2]
    exact hP_eq hp (by rw [show i - ptI p (m : Int) - (i - ptI p j) = ptI p j - ptI p m by omega]; exact e2)
  · intro ht j hj
    exact (taken_iff h (by omega) (hto j hj)).2 (ht j)
/-- A move within bounds is among the symmetries exactly if it takes every cut. -/
theorem mem_sym {p : Prog} (h : progE p = 0) (x : Mv) (hc : 0 ≤ x.cuts ∧ x.cuts < closeN p) (ht : 0 ≤ x.turn ∧ x.turn < per p) :
    x ∈ allMv p p 3 ↔ ∀ j : Nat, j < closeN p → takenB (shL p j) (shL p (toI x.back x.cuts j)) x.turn x.mirror = true := by
  have hp := benchFacts h
  rw [mem_allMv hp hp 3 x, all_taken h hc]
  constructor
  · exact fun h => h.2.2.2.2
  · exact fun h2 => ⟨(likeB_iff p p).2 ⟨rfl, rfl, rfl⟩, hc, ht, by cases x.mirror <;> cases x.back <;> rfl, h2⟩
end Go.Proofs.Ytnboppombhibbaa
namespace Go.Proofs.Ytnboppombhibbaa
open Go.RowKit
set_option linter.unusedVariables false
set_option linter.unusedSimpArgs false
theorem ins_head (lt : Mv → Mv → Bool) (z : Mv) : ∀ (j : Nat) (d : Array Mv), j < d.size → d[0]! = z → (∀ i, i < d.size → lt d[i]! z = false) → (Sort.insInner lt 0 j d)[0]! = z ∧ ∀ i, i < d.size → lt (Sort.insInner lt 0 j d)[i]! z = false
  | 0, d, _, h0, hall => ⟨h0, hall⟩
  | j + 1, d, h, h0, hall => by
    unfold Sort.insInner
    split
    · rename_i hc
      by_cases hj : j = 0
      · subst hj
        rw [h0, hall (0 + 1) h] at hc
        simp at hc
      · have h1 := ins_head lt z j (Sort.swp d (j + 1) j) (by rw [Sort.size_swp]; omega) (by rw [Sort.swp_other _ _ _ _ (by omega) (by omega)]; exact h0) (fun i hi => by
          rw [Sort.size_swp] at hi
          by_cases h1 : i = j + 1
          · rw [h1, Sort.swp_left _ _ _ h (by omega)]; exact hall j (by omega)
          · by_cases h2 : i = j
            · rw [h2, Sort.swp_right _ _ _ (by omega)]; exact hall (j + 1) h
            · rw [Sort.swp_other _ _ _ _ h1 h2]; exact hall i hi)
        rw [Sort.size_swp] at h1
        exact h1
    · exact ⟨h0, hall⟩
theorem outer_head (lt : Mv → Mv → Bool) (z : Mv) (b i : Nat) (d : Array Mv) (hb : b ≤ d.size) (h0 : d[0]! = z) (hall : ∀ i, i < d.size → lt d[i]! z = false) : (Sort.insOuter lt 0 b i d)[0]! = z := by
  unfold Sort.insOuter
  split
  · have h1 := ins_head lt z i d (by omega) h0 hall
    exact outer_head lt z b (i + 1) (Sort.insInner lt 0 i d) (by rw [size_insInner]; exact hb) h1.1 (by rw [size_insInner]; exact h1.2)
  · exact h0
termination_by b - i
theorem sortMv_head {z : Mv} {l : List Mv} (h : ∀ x ∈ z :: l, ltOf cmpMv x z = false) : ∃ l', sortMv (z :: l) = z :: l' := by
  have h1 := outer_head (ltOf cmpMv) z (z :: l).length (0 + 1) (z :: l).toArray (by simp) (by simp) (fun i hi => by
    have hi2 : i < (z :: l).length := by simpa using hi
    have e : (z :: l).toArray[i]! = (z :: l)[i] := (getElem!_pos (z :: l).toArray i hi).trans rfl
    rw [e]
    exact h _ (List.getElem_mem hi2))
  have hp := sortMv_perm (z :: l)
  unfold sortMv Sort.insertionSort at hp ⊢
  generalize Sort.insOuter (ltOf cmpMv) 0 (z :: l).length (0 + 1) (z :: l).toArray = D at h1 hp
  obtain ⟨L⟩ := D
  cases L with
  | nil => exact absurd hp.length_eq (by simp)
  | cons a t =>
    have : a = z := by simpa using h1
    exact ⟨t, by rw [this]⟩
theorem sym_head {p : Prog} (h : progE p = 0) : ∃ l, allMv p p 3 = zeroMv :: l := by
  have hp := benchFacts h
  have hcl := (close_le hp).2.2.1
  have hpe := (per_pos hp).1
  have hlk := (likeB_iff p p).2 ⟨rfl, rfl, rfl⟩
  have hz : zeroMv ∈ allMv p p 3 := (mem_allMv hp hp 3 _).2 ⟨hlk, ⟨Int.le_refl _, by show (0 : Int) < closeN p; omega⟩, ⟨Int.le_refl _, by show (0 : Int) < per p; omega⟩, rfl, Takes.id p⟩
  have hall : allMv p p 3 = preMv p p 3 (closeN p) (closeN p) := by unfold allMv; rw [if_pos hlk]
  have hzc : zeroMv ∈ cutMv p p 3 (closeN p) 0 := by
    rw [hall] at hz
    unfold preMv at hz
    obtain ⟨k, hk, hzk⟩ := List.mem_flatMap.1 hz
    have h1 := ((mem_cutMv p p 3 (closeN p) k zeroMv).1 hzk).1
    have : k = 0 := by have : (0 : Int) = (k : Int) := h1; omega
    rwa [this] at hzk
  obtain ⟨-, b2, b3, b4⟩ := (mem_cutMv _ _ _ _ _ _).1 hzc
  have hone : oneMv p p 3 (closeN p) ((0 : Nat) : Int) (kindAt 0) = some zeroMv := by
    unfold oneMv
    have e1 : barB p p 3 false false = false := b2
    have e2 : fitsB p p (closeN p) ((0 : Nat) : Int) false false = true := b3
    have e3 : (0 : Int) = turnAt p p ((0 : Nat) : Int) false false 0 := b4
    show (if barB p p 3 false false then none else if fitsB p p (closeN p) ((0 : Nat) : Int) false false then some (⟨((0 : Nat) : Int), turnAt p p ((0 : Nat) : Int) false false 0, false, false⟩ : Mv) else none) = some zeroMv
    rw [e1, e2, ← e3]
    rfl
  have hk : kindsMv p p 3 (closeN p) ((0 : Nat) : Int) 4 = zeroMv :: [1, 2, 3].filterMap (fun a => oneMv p p 3 (closeN p) ((0 : Nat) : Int) (kindAt a)) := by
    unfold kindsMv
    rw [show List.range 4 = 0 :: [1, 2, 3] from rfl, List.filterMap_cons_some (f := fun a => oneMv p p 3 (closeN p) ((0 : Nat) : Int) (kindAt a)) (a := 0) hone]
  obtain ⟨l', hl'⟩ : ∃ l', cutMv p p 3 (closeN p) 0 = zeroMv :: l' := by
    have hmem : ∀ x ∈ kindsMv p p 3 (closeN p) ((0 : Nat) : Int) 4, ltOf cmpMv x zeroMv = false := fun x hx => by
      have h1 := ((mem_kinds p p 3 (closeN p) ((0 : Nat) : Int) x).1 hx).2.2.2
      have h2 := turnAt_bound (q := p) hp ((0 : Nat) : Int) x.mirror x.back 0
      rw [← h1] at h2
      have h3 := hp.ros1
      have h4 := (per_pos hp).2.1
      show decide (wrap64 (x.turn - 0) < 0) = false
      rw [show wrap64 (x.turn - 0) = x.turn - 0 by unfold wrap64; omega]
      exact decide_eq_false (by omega)
    unfold cutMv
    rw [hk] at hmem ⊢
    exact sortMv_head hmem
  obtain ⟨n, hn⟩ : ∃ n, closeN p = n + 1 := ⟨closeN p - 1, by omega⟩
  refine ⟨l' ++ ((List.range n).map Nat.succ).flatMap (fun a => cutMv p p 3 (closeN p) a), ?_⟩
  rw [hall]
  unfold preMv
  rw [show (List.range (closeN p)) = 0 :: (List.range n).map Nat.succ from by rw [hn]; exact List.range_succ_eq_map]
  rw [List.flatMap_cons, hl']
  rfl
end Go.Proofs.Ytnboppombhibbaa
namespace Go.Proofs.Ytnboppombhibbaa
open Go.RowKit
set_option linter.unusedVariables false
set_option linter.unusedSimpArgs false
/-- One move after another one, within bounds. -/
def thenMv (n N : Int) (x y : Mv) : Mv := ⟨compC y.back y.cuts x.cuts % n, compC y.mirror y.turn x.turn % N, x.mirror ^^ y.mirror, x.back ^^ y.back⟩
theorem sym_iff {p : Prog} (h : progE p = 0) (x : Mv) : x ∈ allMv p p 3 ↔ (0 ≤ x.cuts ∧ x.cuts < closeN p) ∧ (0 ≤ x.turn ∧ x.turn < per p) ∧ Takes p p x.cuts x.turn x.mirror x.back := by
  have hp := benchFacts h
  rw [mem_allMv hp hp 3 x]
  constructor
  · exact fun h => ⟨h.2.1, h.2.2.1, h.2.2.2.2⟩
  · exact fun h => ⟨(likeB_iff p p).2 ⟨rfl, rfl, rfl⟩, h.1, h.2.1, by cases x.mirror <;> cases x.back <;> rfl, h.2.2⟩
theorem dvd_mod (n c : Int) : n ∣ c % n - c := by
  rw [show c % n - c = -(n * (c / n)) from by have := Int.mul_ediv_add_emod c n; omega]
  exact Int.dvd_neg.2 (Int.dvd_mul_right _ _)
theorem then_mem {p : Prog} (h : progE p = 0) {x y : Mv} (hx : x ∈ allMv p p 3) (hy : y ∈ allMv p p 3) : thenMv (closeN p) (per p) x y ∈ allMv p p 3 := by
  have hp := benchFacts h
  have hcl := (close_le hp).2.2.1
  have hpe := (per_pos hp).1
  obtain ⟨-, -, tx⟩ := (sym_iff h x).1 hx
  obtain ⟨-, -, ty⟩ := (sym_iff h y).1 hy
  refine (sym_iff h _).2 ⟨⟨Int.emod_nonneg _ (by omega), Int.emod_lt_of_pos _ (by omega)⟩, ⟨Int.emod_nonneg _ (by omega), Int.emod_lt_of_pos _ (by omega)⟩, (tx.comp ty).mod hp (dvd_mod _ _) (dvd_mod _ _)⟩
theorem mod_self_zero {n c : Int} (h0 : 0 ≤ c) (h1 : c < n) : (c % n - c) % n = 0 := by
  rw [Int.emod_eq_of_lt h0 h1, Int.sub_self]; exact Int.zero_emod _
theorem then_undo {p : Prog} (h : progE p = 0) {x : Mv} (hx : x ∈ allMv p p 3) : ∃ y ∈ allMv p p 3, thenMv (closeN p) (per p) x y = zeroMv := by
  have hp := benchFacts h
  have hcl := (close_le hp).2.2.1
  have hpe := (per_pos hp).1
  obtain ⟨⟨c0, c1⟩, ⟨t0, t1⟩, tx⟩ := (sym_iff h x).1 hx
  obtain ⟨xc, xt, xm, xb⟩ := x
  refine ⟨⟨(if xb then xc else -xc) % closeN p, (if xm then xt else -xt) % per p, xm, xb⟩, (sym_iff h _).2 ⟨⟨Int.emod_nonneg _ (by omega), Int.emod_lt_of_pos _ (by omega)⟩, ⟨Int.emod_nonneg _ (by omega), Int.emod_lt_of_pos _ (by omega)⟩, tx.inv.mod hp (dvd_mod _ _) (dvd_mod _ _)⟩, ?_⟩
  have key : ∀ (b : Bool) (n c : Int), compC b ((if b then c else -c) % n) c % n = 0 := by
    intro b n c
    cases b with
    | true =>
      show (c % n - c) % n = 0
      rw [Int.emod_sub_emod, Int.sub_self]
      exact Int.zero_emod _
    | false =>
      show ((-c) % n + c) % n = 0
      rw [Int.emod_add_emod, show -c + c = 0 by omega]
      exact Int.zero_emod _
  unfold thenMv
  simp only [key]
  cases xm <;> cases xb <;> rfl
/-- Whether some turn makes a symmetry of this number of cuts. -/
def fitA (p : Prog) (mi ba : Bool) (c : Int) : Bool := !barB p p 3 mi ba && fitsB p p (closeN p) (c % closeN p) mi ba
theorem fitA_iff {p : Prog} (h : progE p = 0) (mi ba : Bool) (c : Int) : fitA p mi ba c = true ↔ ∃ t, Takes p p c t mi ba := by
  have hp := benchFacts h
  have hcl := (close_le hp).2.2.1
  have hpe := (per_pos hp).1
  have h0 := Int.emod_nonneg c (show (closeN p : Int) ≠ 0 by omega)
  have h1 := Int.emod_lt_of_pos c (show (0 : Int) < (closeN p : Int) by omega)
  obtain ⟨k, hk⟩ : ∃ k : Nat, c % (closeN p : Int) = (k : Int) := ⟨_, (Int.toNat_of_nonneg h0).symm⟩
  have hall : allMv p p 3 = preMv p p 3 (closeN p) (closeN p) := by unfold allMv; rw [if_pos ((likeB_iff p p).2 ⟨rfl, rfl, rfl⟩)]
  have hmem : ∀ x : Mv, x.cuts = k → (x ∈ allMv p p 3 ↔ x ∈ cutMv p p 3 (closeN p) k) := fun x hx => by
    rw [hall]
    unfold preMv
    rw [List.mem_flatMap]
    constructor
    · rintro ⟨a, ha, hxa⟩
      have := ((mem_cutMv _ _ _ _ _ _).1 hxa).1
      have : a = k := by omega
      rwa [this] at hxa
    · exact fun h => ⟨k, List.mem_range.2 (by omega), h⟩
  unfold fitA
  rw [hk]
  constructor
  · intro hf
    simp only [Bool.and_eq_true, Bool.not_eq_true'] at hf
    have hx : (⟨k, turnAt p p k mi ba 0, mi, ba⟩ : Mv) ∈ allMv p p 3 := (hmem _ rfl).2 ((mem_cutMv _ _ _ _ _ _).2 ⟨rfl, hf.1, hf.2, rfl⟩)
    have ht := ((sym_iff h _).1 hx).2.2
    exact ⟨_, Takes.mod hp ht (by rw [← hk, show c - c % (closeN p : Int) = -(c % (closeN p : Int) - c) by omega]; exact Int.dvd_neg.2 (dvd_mod _ _)) (by rw [Int.sub_self]; exact Int.dvd_zero _)⟩
  · rintro ⟨t, ht⟩
    have hx : (⟨k, t % per p, mi, ba⟩ : Mv) ∈ allMv p p 3 := (sym_iff h _).2 ⟨⟨by show (0 : Int) ≤ (k : Int); omega, by show (k : Int) < closeN p; omega⟩, ⟨Int.emod_nonneg _ (by omega), Int.emod_lt_of_pos _ (by omega)⟩, Takes.mod hp ht (by show (closeN p : Int) ∣ (k : Int) - c; rw [← hk]; exact dvd_mod _ _) (dvd_mod _ _)⟩
    have := (mem_cutMv _ _ _ _ _ _).1 ((hmem _ rfl).1 hx)
    simp only [Bool.and_eq_true, Bool.not_eq_true']
    exact ⟨this.2.1, this.2.2.1⟩
theorem len_filterMap4 {α : Type} (f : Nat → Option α) : ((List.range 4).filterMap f).length = (if (f 0).isSome then 1 else 0) + (if (f 1).isSome then 1 else 0) + (if (f 2).isSome then 1 else 0) + (if (f 3).isSome then 1 else 0) := by
  rw [show List.range 4 = [0, 1, 2, 3] from rfl]
  simp only [List.filterMap_cons, List.filterMap_nil]
  cases f 0 <;> cases f 1 <;> cases f 2 <;> cases f 3 <;> rfl
theorem one_some (p : Prog) (n : Nat) (k : Int) (mb : Bool × Bool) : (oneMv p p 3 n k mb).isSome = (!barB p p 3 mb.1 mb.2 && fitsB p p n k mb.1 mb.2) := by
  unfold oneMv
  cases barB p p 3 mb.1 mb.2 <;> cases fitsB p p n k mb.1 mb.2 <;> rfl
theorem pre_len (p : Prog) : ∀ k, k ≤ closeN p → (preMv p p 3 (closeN p) k).length = cntF (fitA p false false) k 0 + cntF (fitA p false true) k 0 + cntF (fitA p true false) k 0 + cntF (fitA p true true) k 0
  | 0, _ => by simp [preMv, cntF]
  | k + 1, hk => by
    have ih := pre_len p k (by omega)
    have e : preMv p p 3 (closeN p) (k + 1) = preMv p p 3 (closeN p) k ++ cutMv p p 3 (closeN p) k := by
      unfold preMv
      rw [List.range_succ, List.flatMap_append]
      simp
    rw [e, List.length_append, ih]
    unfold cutMv
    rw [(sortMv_perm _).length_eq]
    unfold kindsMv
    rw [len_filterMap4]
    simp only [one_some]
    rw [cntF_succ, cntF_succ, cntF_succ, cntF_succ]
    have hf : ∀ mi ba, fitA p mi ba (0 + (k : Int)) = (!barB p p 3 mi ba && fitsB p p (closeN p) k mi ba) := fun mi ba => by
      unfold fitA
      rw [Int.zero_add, Int.emod_eq_of_lt (by omega) (by omega)]
    rw [hf, hf, hf, hf]
    show _ + ((if (!barB p p 3 false false && fitsB p p (closeN p) k false false) = true then 1 else 0) + (if (!barB p p 3 false true && fitsB p p (closeN p) k false true) = true then 1 else 0) + (if (!barB p p 3 true false && fitsB p p (closeN p) k true false) = true then 1 else 0) + (if (!barB p p 3 true true && fitsB p p (closeN p) k true true) = true then 1 else 0)) = _
    omega
theorem fitA_per {p : Prog} (mi ba : Bool) (c : Int) : fitA p mi ba (c + closeN p) = fitA p mi ba c := by
  unfold fitA
  rw [Int.add_emod_right]
theorem fitA_moved {p : Prog} (h : progE p = 0) {mi ba : Bool} {c0 : Int} (h0 : fitA p mi ba c0 = true) (c : Int) : fitA p mi ba c = fitA p false false (c - c0) := by
  obtain ⟨t0, h0⟩ := (fitA_iff h _ _ _).1 h0
  rw [Bool.eq_iff_iff, fitA_iff h, fitA_iff h]
  constructor
  · rintro ⟨t, ht⟩
    have hc := (h0.inv).comp ht
    refine ⟨compC mi t (if mi then t0 else -t0), ?_⟩
    · cases mi <;> cases ba <;> simp only [compC, if_true, if_false, Bool.false_eq_true, Bool.xor_self] at hc ⊢ <;> simpa [Int.sub_eq_add_neg] using hc
  · rintro ⟨t, ht⟩
    have hc := h0.comp ht
    refine ⟨compC false t t0, ?_⟩
    · simp only [compC, if_false, Bool.false_eq_true, Bool.xor_false] at hc ⊢
      rwa [show c - c0 + c0 = c by omega] at hc
theorem fitA_zero {p : Prog} (h : progE p = 0) : fitA p false false 0 = true := (fitA_iff h _ _ _).2 ⟨0, Takes.id p⟩
theorem fitA_add {p : Prog} (h : progE p = 0) (a b : Int) (ha : fitA p false false a = true) (hb : fitA p false false b = true) : fitA p false false (a + b) = true := by
  obtain ⟨s, hs⟩ := (fitA_iff h _ _ _).1 ha
  obtain ⟨t, ht⟩ := (fitA_iff h _ _ _).1 hb
  have hc := hs.comp ht
  refine (fitA_iff h _ _ _).2 ⟨compC false t s, ?_⟩
  simp only [compC, if_false, Bool.false_eq_true, Bool.xor_false] at hc ⊢
  rwa [Int.add_comm b a] at hc
theorem fitA_neg {p : Prog} (h : progE p = 0) (a : Int) (ha : fitA p false false a = true) : fitA p false false (-a) = true := by
  obtain ⟨s, hs⟩ := (fitA_iff h _ _ _).1 ha
  exact (fitA_iff h _ _ _).2 ⟨_, hs.inv⟩
/-- How many symmetries there are divides four times the number of cuts. -/
theorem sym_count {p : Prog} (h : progE p = 0) : (allMv p p 3).length ∣ 4 * closeN p := by
  have hp := benchFacts h
  have hcl := (close_le hp).2.2.1
  have hall : allMv p p 3 = preMv p p 3 (closeN p) (closeN p) := by unfold allMv; rw [if_pos ((likeB_iff p p).2 ⟨rfl, rfl, rfl⟩)]
  rw [hall, pre_len p _ (Nat.le_refl _)]
  have hz := fitA_zero h
  have hn : fitA p false false (closeN p : Int) = true := by
    have := fitA_per (p := p) false false 0
    rw [Int.zero_add] at this
    rw [this, hz]
  obtain ⟨hk, -⟩ := group_count (fitA p false false) (closeN p) hcl hn (fitA_add h) (fitA_neg h)
  have hclass : ∀ mi ba, (∃ c0, fitA p mi ba c0 = true) ∧ cntF (fitA p mi ba) (closeN p) 0 = cntF (fitA p false false) (closeN p) 0 ∨ (∀ c, fitA p mi ba c = false) ∧ cntF (fitA p mi ba) (closeN p) 0 = 0 := fun mi ba => by
    by_cases hex : ∃ c0, fitA p mi ba c0 = true
    · obtain ⟨c0, h0⟩ := hex
      exact .inl ⟨⟨c0, h0⟩, cntF_moved _ _ _ (fitA_per false false) c0 (fitA_moved h h0)⟩
    · have hno : ∀ c, fitA p mi ba c = false := fun c => by
        cases hc : fitA p mi ba c with
        | true => exact absurd ⟨c, hc⟩ hex
        | false => rfl
      exact .inr ⟨hno, cntF_none _ _ hno⟩
  have hjoin : ∀ m1 b1 m2 b2 : Bool, (∃ c, fitA p m1 b1 c = true) → (∃ c, fitA p m2 b2 c = true) → ∃ c, fitA p (m1 ^^ m2) (b1 ^^ b2) c = true := fun m1 b1 m2 b2 => by
    rintro ⟨a, ha⟩ ⟨b, hb⟩
    obtain ⟨s, hs⟩ := (fitA_iff h _ _ _).1 ha
    obtain ⟨t, ht⟩ := (fitA_iff h _ _ _).1 hb
    exact ⟨_, (fitA_iff h _ _ _).2 ⟨_, hs.comp ht⟩⟩
  have hno : ∀ {mi ba : Bool}, (∀ c, fitA p mi ba c = false) → ¬ ∃ c, fitA p mi ba c = true := fun hf => by
    rintro ⟨c, hc⟩
    rw [hf c] at hc
    cases hc
  have pick : ∀ mi ba, ∃ b : Bool, (b = true ↔ ∃ c, fitA p mi ba c = true) ∧ cntF (fitA p mi ba) (closeN p) 0 = if b then cntF (fitA p false false) (closeN p) 0 else 0 := fun mi ba => by
    rcases hclass mi ba with ⟨h1, h2⟩ | ⟨h1, h2⟩
    · exact ⟨true, by simp [h1], by simp [h2]⟩
    · exact ⟨false, by simpa using hno h1, by simp [h2]⟩
  obtain ⟨b1, i1, e1⟩ := pick false true
  obtain ⟨b2, i2, e2⟩ := pick true false
  obtain ⟨b3, i3, e3⟩ := pick true true
  rw [e1, e2, e3]
  exact four_classes _ _ hk b1 b2 b3 (fun h1 h2 => i3.2 (hjoin _ _ _ _ (i1.1 h1) (i2.1 h2))) (fun h1 h3 => i2.2 (hjoin _ _ _ _ (i1.1 h1) (i3.1 h3))) (fun h2 h3 => i1.2 (hjoin _ _ _ _ (i2.1 h2) (i3.1 h3)))
theorem kindAt_inj : ∀ a, a < 4 → ∀ b, b < 4 → kindAt a = kindAt b → a = b := by decide
theorem one_kind {p : Prog} {n : Nat} {k : Int} {mb : Bool × Bool} {x : Mv} (h : oneMv p p 3 n k mb = some x) : (x.mirror, x.back) = mb := by
  unfold oneMv at h
  split at h
  · cases h
  · split at h
    · injection h with h
      rw [← h]
    · cases h
/-- No symmetry is found twice. -/
theorem sym_nodup (p : Prog) : (allMv p p 3).Pairwise (· ≠ ·) := by
  have hall : allMv p p 3 = preMv p p 3 (closeN p) (closeN p) := by unfold allMv; rw [if_pos ((likeB_iff p p).2 ⟨rfl, rfl, rfl⟩)]
  rw [hall]
  unfold preMv
  rw [List.pairwise_flatMap]
  constructor
  · intro a _
    unfold cutMv
    refine (sortMv_perm _).symm.pairwise ?_ (fun h => Ne.symm h)
    unfold kindsMv
    rw [List.pairwise_filterMap]
    refine List.Pairwise.imp_of_mem ?_ (List.nodup_range (n := 4))
    intro b c hb hc hbc x hx y hy hxy
    subst hxy
    have h1 := one_kind hx
    have h2 := one_kind hy
    exact hbc (kindAt_inj b (List.mem_range.1 hb) c (List.mem_range.1 hc) (h1.symm.trans h2))
  · refine List.Pairwise.imp ?_ (List.nodup_range (n := closeN p))
    intro a b hab x hx y hy hxy
    subst hxy
    have h1 := ((mem_cutMv _ _ _ _ _ _).1 hx).1
    have h2 := ((mem_cutMv _ _ _ _ _ _).1 hy).1
    exact hab (by omega)
theorem sym_next {p : Prog} (j : Nat) (h0 : 0 < j) (h : j < (allMv p p 3).length) : (allMv p p 3)[j] ≠ (allMv p p 3)[j - 1]'(by omega) := by
  have := List.pairwise_iff_getElem.1 (sym_nodup p) (j - 1) j (by omega) h (by omega)
  exact fun e => this e.symm
end Go.Proofs.Ytnboppombhibbaa
