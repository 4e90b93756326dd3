/- Being taken to each other: by the move that changes nothing, back, and one after the other. -/
import Derived.Test.YtnboppombhibbaaTakesLaw
import Derived.Test.YtnboppombhibbaaSame
namespace Go.Proofs.Ytnboppombhibbaa
open Go.RowKit
set_option linter.unusedVariables false
set_option linter.unusedSimpArgs false
theorem Takes.mod {p q : Prog} (hq : BenchFacts q) {c t c' t' : Int} {mi ba : Bool} (h : Takes p q c t mi ba) (hc : (closeN q : Int) ∣ c' - c) (ht : (per q : Int) ∣ t' - t) : Takes p q c' t' mi ba := by
  intro j i
  rw [← h j i]
  refine hP_eq hq ?_
  have h1 : (closeN q : Int) ∣ toI ba c' j - toI ba c j := by
    cases ba with
    | true => simpa [toI] using (show (closeN q : Int) ∣ (c' - j) - (c - j) from by rw [show (c' - j) - (c - j) = c' - c from by omega]; exact hc)
    | false => simpa [toI] using (show (closeN q : Int) ∣ (c' + j) - (c + j) from by rw [show (c' + j) - (c + j) = c' - c from by omega]; exact hc)
  have h2 := pt_same hq h1
  cases mi with
  | true =>
    show (per q : Int) ∣ (t' - i) - ptI q (toI ba c' j) - ((t - i) - ptI q (toI ba c j))
    rw [show (t' - i) - ptI q (toI ba c' j) - ((t - i) - ptI q (toI ba c j)) = (t' - t) - (ptI q (toI ba c' j) - ptI q (toI ba c j)) from by omega]
    exact Int.dvd_sub ht h2
  | false =>
    show (per q : Int) ∣ (t' + i) - ptI q (toI ba c' j) - ((t + i) - ptI q (toI ba c j))
    rw [show (t' + i) - ptI q (toI ba c' j) - ((t + i) - ptI q (toI ba c j)) = (t' - t) - (ptI q (toI ba c' j) - ptI q (toI ba c j)) from by omega]
    exact Int.dvd_sub ht h2
theorem Takes.id (p : Prog) : Takes p p 0 0 false false := by
  intro j i
  simp [toI]
def compC (b2 : Bool) (c2 c1 : Int) : Int := if b2 then c2 - c1 else c2 + c1
theorem toI_comp (b1 b2 : Bool) (c1 c2 j : Int) : toI (b1 ^^ b2) (compC b2 c2 c1) j = toI b2 c2 (toI b1 c1 j) := by
  cases b1 <;> cases b2 <;> simp [toI, compC] <;> omega
theorem toI_inv (b : Bool) (c j : Int) : toI b c (toI b (if b then c else -c) j) = j := by
  cases b <;> simp [toI] <;> omega
theorem Takes.comp {p q r : Prog} {c1 t1 c2 t2 : Int} {m1 b1 m2 b2 : Bool} (h1 : Takes p q c1 t1 m1 b1) (h2 : Takes q r c2 t2 m2 b2) : Takes p r (compC b2 c2 c1) (compC m2 t2 t1) (m1 ^^ m2) (b1 ^^ b2) := by
  intro j i
  show hP r (toI (m1 ^^ m2) (compC m2 t2 t1) i - ptI r (toI (b1 ^^ b2) (compC b2 c2 c1) j)) = _
  rw [toI_comp, toI_comp, ← h1 j i]
  exact h2 (toI b1 c1 j) (toI m1 t1 i)
theorem Takes.inv {p q : Prog} {c t : Int} {mi ba : Bool} (h : Takes p q c t mi ba) : Takes q p (if ba then c else -c) (if mi then t else -t) mi ba := by
  intro j i
  have h1 : hP q (toI mi t (toI mi (if mi then t else -t) i) - ptI q (toI ba c (toI ba (if ba then c else -c) j))) = hP p (toI mi (if mi then t else -t) i - ptI p (toI ba (if ba then c else -c) j)) := h _ _
  rw [toI_inv, toI_inv] at h1
  exact h1.symm
theorem allow_comp : ∀ how, how < 4 → ∀ other, other < 4 → ∀ m1 b1 m2 b2 : Bool, allowB how m1 b1 = true → allowB other m2 b2 = true → allowB (how ||| other) (m1 ^^ m2) (b1 ^^ b2) = true := by decide
theorem likeB_iff (p q : Prog) : likeB p q = true ↔ p.ros.length = q.ros.length ∧ per p = per q ∧ closeN p = closeN q := by
  unfold likeB; simp [and_assoc]
theorem allMv_of {p q : Prog} (hp : BenchFacts p) (hq : BenchFacts q) {how : Nat} {c t : Int} {mi ba : Bool} (hl : likeB p q = true) (ha : allowB how mi ba = true) (h : Takes p q c t mi ba) (hc : 0 < closeN p) (ht : 0 < per p) : allMv p q how ≠ [] := by
  obtain ⟨h1, h2, h3⟩ := (likeB_iff p q).1 hl
  have hm : (⟨c % closeN p, t % per p, mi, ba⟩ : Mv) ∈ allMv p q how := by
    refine (mem_allMv hp hq how _).2 ⟨hl, ⟨Int.emod_nonneg _ (by omega), Int.emod_lt_of_pos _ (by omega)⟩, ⟨Int.emod_nonneg _ (by omega), Int.emod_lt_of_pos _ (by omega)⟩, ha, h.mod hq ?_ ?_⟩
    · show (closeN q : Int) ∣ c % closeN p - c
      rw [h3, show c % (closeN q : Int) - c = -(closeN q * (c / closeN q)) from by have := Int.mul_ediv_add_emod c (closeN q); omega]
      exact Int.dvd_neg.2 (Int.dvd_mul_right _ _)
    · show (per q : Int) ∣ t % per p - t
      rw [h2, show t % (per q : Int) - t = -(per q * (t / per q)) from by have := Int.mul_ediv_add_emod t (per q); omega]
      exact Int.dvd_neg.2 (Int.dvd_mul_right _ _)
  intro h0
  rw [h0] at hm
  exact absurd hm (by simp)
theorem lastE_take {L : List Mv} : lastE (gotMv false L) = 0 ↔ L ≠ [] := by
  cases L <;> simp [gotMv, lastE]
theorem sameE_zero {p q : Prog} {how : Nat} : sameE p q how = 0 ↔ progE p = 0 ∧ progE q = 0 ∧ how ≤ 3 ∧ allMv p q how ≠ [] := by
  unfold sameE
  by_cases h1 : progE p = 0
  · by_cases h2 : progE q = 0
    · by_cases h3 : 3 < how
      · simp [h1, h2, h3]; omega
      · simp [h1, h2, h3, lastE_take]; omega
    · simp [h1, h2]
  · simp [h1]
theorem mem_cutMv (p q : Prog) (how : Nat) (n k : Nat) (x : Mv) : x ∈ cutMv p q how n k ↔ x.cuts = k ∧ barB p q how x.mirror x.back = false ∧ fitsB p q n k x.mirror x.back = true ∧ x.turn = turnAt p q k x.mirror x.back 0 := by
  unfold cutMv
  rw [(sortMv_perm _).mem_iff, mem_kinds]
theorem same_self {p : Prog} (h : progE p = 0) (hc : 0 < closeN p) (ht : 0 < per p) : sameE p p 0 = 0 ∧ sameM p p 0 = zeroMv := by
  have hp := benchFacts h
  have hz : zeroMv ∈ allMv p p 0 := (mem_allMv hp hp 0 _).2 ⟨(likeB_iff p p).2 ⟨rfl, rfl, rfl⟩, ⟨Int.le_refl _, by show (0 : Int) < closeN p; omega⟩, ⟨Int.le_refl _, by show (0 : Int) < per p; omega⟩, rfl, Takes.id p⟩
  have h0 : sameE p p 0 = 0 := sameE_zero.2 ⟨h, h, by omega, fun e => by rw [e] at hz; exact absurd hz (by simp)⟩
  refine ⟨h0, ?_⟩
  unfold sameM
  rw [if_pos h0]
  have hall : allMv p p 0 = preMv p p 0 (closeN p) (closeN p) := by unfold allMv; rw [if_pos ((likeB_iff p p).2 ⟨rfl, rfl, rfl⟩)]
  have hzc : zeroMv ∈ cutMv p p 0 (closeN p) 0 := by
    rw [hall] at hz
    unfold preMv at hz
    obtain ⟨k, hk, hzk⟩ := List.mem_flatMap.1 hz
    have h1 := ((mem_cutMv p p 0 (closeN p) k zeroMv).1 hzk).1
    have : k = 0 := by have : (0 : Int) = (k : Int) := h1; omega
    rwa [this] at hzk
  obtain ⟨n, hn⟩ : ∃ n, closeN p = n + 1 := ⟨closeN p - 1, by omega⟩
  have hpre : preMv p p 0 (closeN p) (closeN p) = cutMv p p 0 (closeN p) 0 ++ ((List.range n).map Nat.succ).flatMap (fun a => cutMv p p 0 (closeN p) a) := by
    unfold preMv
    rw [show (List.range (closeN p)) = 0 :: (List.range n).map Nat.succ from by rw [hn]; exact List.range_succ_eq_map]
    rw [List.flatMap_cons]
  rw [hall, hpre]
  generalize hL : cutMv p p 0 (closeN p) 0 = L at hzc
  cases L with
  | nil => exact absurd hzc (by simp)
  | cons x l =>
    have hx : x ∈ cutMv p p 0 (closeN p) 0 := by rw [hL]; simp
    have hzc' : zeroMv ∈ cutMv p p 0 (closeN p) 0 := by rw [hL]; exact hzc
    obtain ⟨a1, a2, -, a4⟩ := (mem_cutMv _ _ _ _ _ _).1 hx
    obtain ⟨b1, b2, -, b4⟩ := (mem_cutMv _ _ _ _ _ _).1 hzc'
    have hb := ((bar_allow p p 0 _ _).1 a2).1
    show x = zeroMv
    obtain ⟨xc, xt, xm, xb⟩ := x
    have hmb : xm = false ∧ xb = false := by
      cases xm <;> cases xb <;> simp [allowB] at hb ⊢
    obtain ⟨rfl, rfl⟩ := hmb
    have e1 : xc = 0 := a1
    have e2 : xt = 0 := by
      have e3 : xt = turnAt p p (0 : Nat) false false 0 := a4
      have e4 : (0 : Int) = turnAt p p (0 : Nat) false false 0 := b4
      rw [e3, ← e4]
    rw [e1, e2]; rfl
theorem same_comp {p q r : Prog} {how other : Nat} (h1 : sameE p q how = 0) (h2 : sameE q r other = 0) : sameE p r (how ||| other) = 0 := by
  obtain ⟨p1, q1, w1, l1⟩ := sameE_zero.1 h1
  obtain ⟨q2, r2, w2, l2⟩ := sameE_zero.1 h2
  obtain ⟨x, hx⟩ := List.exists_mem_of_ne_nil _ l1
  obtain ⟨y, hy⟩ := List.exists_mem_of_ne_nil _ l2
  have hp := benchFacts p1
  have hq := benchFacts q1
  have hr := benchFacts r2
  obtain ⟨a1, a2, a3, a4, a5⟩ := (mem_allMv hp hq how x).1 hx
  obtain ⟨b1, b2, b3, b4, b5⟩ := (mem_allMv hq hr other y).1 hy
  obtain ⟨c1, c2, c3⟩ := (likeB_iff p q).1 a1
  obtain ⟨d1, d2, d3⟩ := (likeB_iff q r).1 b1
  have hor : how ||| other ≤ 3 := by
    have : ∀ a, a < 4 → ∀ b, b < 4 → a ||| b ≤ 3 := by decide
    exact this how (by omega) other (by omega)
  exact sameE_zero.2 ⟨p1, r2, hor, allMv_of hp hr ((likeB_iff p r).2 ⟨c1.trans d1, c2.trans d2, c3.trans d3⟩) (allow_comp how (by omega) other (by omega) _ _ _ _ a4 b4) (a5.comp b5) (by omega) (by omega)⟩
theorem same_back {p q : Prog} {how : Nat} (h1 : sameE p q how = 0) : sameE q p how = 0 := by
  obtain ⟨p1, q1, w1, l1⟩ := sameE_zero.1 h1
  obtain ⟨x, hx⟩ := List.exists_mem_of_ne_nil _ l1
  have hp := benchFacts p1
  have hq := benchFacts q1
  obtain ⟨a1, a2, a3, a4, a5⟩ := (mem_allMv hp hq how x).1 hx
  obtain ⟨c1, c2, c3⟩ := (likeB_iff p q).1 a1
  exact sameE_zero.2 ⟨q1, p1, w1, allMv_of hq hp ((likeB_iff q p).2 ⟨c1.symm, c2.symm, c3.symm⟩) a4 a5.inv (by omega) (by omega)⟩
end Go.Proofs.Ytnboppombhibbaa
