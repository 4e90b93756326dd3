/- Plain laws of two programs together: the beat, as a list of differences without repeats. -/
import Derived.Test.YtnboppombhibbaaP4Tells
import Derived.Maps.OwnSet
import Derived.Maps.OwnIn
namespace Go.Proofs.Ytnboppombhibbaa
open Go.RowKit
set_option linter.unusedVariables false
set_option linter.unusedSimpArgs false
def addI (acc : List Int) (x : Int) : List Int := if acc.any (fun y => y == x) then acc else acc ++ [x]
def commonG (p q : Prog) : Nat := Nat.gcd (per p) (per q)
def diffI (p q : Prog) (j : Nat) : Int := (phaseI p j - phaseI q j) % (commonG p q : Int)
def seenL (p q : Prog) (k : Nat) : List Int := ((List.range k).map (diffI p q)).foldl addI []
def lookN (p q : Prog) : Nat := p.shifts.length * q.shifts.length * commonG p q
def beatN (p q : Prog) : Nat := (seenL p q (lookN p q)).length
def togetherN (p q : Prog) : Nat := closeN p / Nat.gcd (closeN p) (closeN q) * closeN q
def moireE (p q : Prog) : Int := if progE p ≠ 0 then progE p else if progE q ≠ 0 then progE q else if p.ros.length ≠ q.ros.length then 2 else 0
theorem seenL_succ (p q : Prog) (k : Nat) : seenL p q (k + 1) = addI (seenL p q k) (diffI p q k) := by unfold seenL; rw [List.range_succ]; simp
theorem seenL_le (p q : Prog) (k : Nat) : (seenL p q k).length ≤ k := by
  induction k with
  | zero => simp [seenL]
  | succ k ih =>
    rw [seenL_succ]
    unfold addI
    split
    · omega
    · simp; omega
theorem common_bound {p q : Prog} (hp : BenchFacts p) (hq : BenchFacts q) : 1 ≤ commonG p q ∧ commonG p q ≤ 96 := by
  have h1 := per_pos hp
  have h2 := hp.ros1
  have := Nat.gcd_le_left (per q) h1.1
  exact ⟨Nat.gcd_pos_of_pos_left _ h1.1, by unfold commonG; omega⟩
theorem look_bound {p q : Prog} (hp : BenchFacts p) (hq : BenchFacts q) : lookN p q ≤ 13824 ∧ p.shifts.length * q.shifts.length ≤ 144 := by
  have h := common_bound hp hq
  have h1 : p.shifts.length * q.shifts.length ≤ 12 * 12 := Nat.mul_le_mul hp.sh1 hq.sh1
  have h2 : lookN p q ≤ 144 * 96 := Nat.mul_le_mul h1 h.2
  omega
theorem diff_bound {p q : Prog} (hp : BenchFacts p) (hq : BenchFacts q) (j : Nat) : 0 ≤ diffI p q j ∧ diffI p q j < commonG p q := by
  have h := common_bound hp hq
  exact ⟨Int.emod_nonneg _ (by omega), Int.emod_lt_of_pos _ (by omega)⟩
theorem together_bound {p q : Prog} (hp : BenchFacts p) (hq : BenchFacts q) : closeN p / Nat.gcd (closeN p) (closeN q) ≤ 1152 ∧ togetherN p q ≤ 2000000 ∧ 1 ≤ Nat.gcd (closeN p) (closeN q) ∧ Nat.gcd (closeN p) (closeN q) ≤ 1152 := by
  have h1 := (close_le hp).2.2
  have h2 := (close_le hq).2.2
  have h3 : closeN p / Nat.gcd (closeN p) (closeN q) ≤ 1152 := Nat.le_trans (Nat.div_le_self _ _) h1.2
  have h4 : togetherN p q ≤ 1152 * 1152 := Nat.mul_le_mul h3 h2.2
  exact ⟨h3, by omega, Nat.gcd_pos_of_pos_left _ h1.1, Nat.le_trans (Nat.gcd_le_left _ h1.1) h1.2⟩
def litI (x : Int) : Lit := .int .i64 x
theorem sameKey_int (a b : Int) : (litI a).sameKey (litI b) = (a == b) := by
  by_cases h : a = b
  · subst h; rw [WideAt.sameKey_self (by unfold litI; trivial)]; simp
  · rw [Maps.sameKey_ne (by unfold litI; intro e; injection e with _ e; exact h e)]; simp [h]
theorem addKey_lit (acc : List Int) (x : Int) : Maps.addKey (acc.map litI) (litI x) = (addI acc x).map litI := by
  unfold Maps.addKey addI
  have : (acc.map litI).any (fun y => y.sameKey (litI x)) = acc.any (fun y => y == x) := by
    rw [List.any_map]
    congr 1
    funext y
    exact sameKey_int y x
  rw [this]
  split <;> simp
theorem foldl_lit (xs : List Int) : ∀ acc : List Int, (xs.map litI).foldl Maps.addKey (acc.map litI) = (xs.foldl addI acc).map litI := by
  induction xs with
  | nil => intro acc; rfl
  | cons x xs ih => intro acc; simp only [List.map_cons, List.foldl_cons]; rw [addKey_lit, ih]
theorem size_seen {H : Type} (u : DataW H) (xs : List Int) : Maps.size (Maps.setOf u (xs.map litI)) = ((xs.foldl addI []).length : Nat) := by
  rw [Maps.size_setOf u _ (fun x hx => by
    obtain ⟨y, _, rfl⟩ := List.mem_map.1 hx
    unfold litI; trivial)]
  have := foldl_lit xs []
  rw [List.map_nil] at this
  rw [this, List.length_map]
end Go.Proofs.Ytnboppombhibbaa
