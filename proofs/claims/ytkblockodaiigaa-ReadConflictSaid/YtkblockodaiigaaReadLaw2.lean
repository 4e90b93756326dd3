/- The phases that fit, and the simplest program, plain. -/
import Derived.Test.YtkblockodaiigaaReadLaw
namespace Go.Proofs.Ytkblockodaiigaa
set_option maxRecDepth 100000
set_option linter.unusedVariables false
def inB (x : Int) (s : Spn) : Bool := decide (s.1 ≤ x) && decide (x ≤ s.2)
theorem inB_iff {x : Int} {s : Spn} : inB x s = true ↔ s.1 ≤ x ∧ x ≤ s.2 := by unfold inB; rw [Bool.and_eq_true, decide_eq_true_eq, decide_eq_true_eq]
def phasesAt (rds : List Rd) (lift : List Int) (throw adv start cut : Int) : List Int := ((List.range lift.length).filter fun ph => inB start (startS rds lift throw adv cut ph)).map fun (ph : Nat) => (ph : Int)
def lastC (rds : List Rd) : Int := rds.foldl (fun m r => max m r.cut) 0
theorem lastC_le {rds : List Rd} (h : ∀ r ∈ rds, 0 ≤ r.cut ∧ r.cut ≤ 11) : 0 ≤ lastC rds ∧ lastC rds ≤ 11 ∧ (∀ r ∈ rds, r.cut ≤ lastC rds) ∧ (lastC rds = 0 ∨ ∃ r ∈ rds, r.cut = lastC rds) := by
 have go : ∀ (l : List Rd) (m : Int), 0 ≤ m → m ≤ 11 → (∀ r ∈ l, 0 ≤ r.cut ∧ r.cut ≤ 11) → m ≤ l.foldl (fun m r => max m r.cut) m ∧ l.foldl (fun m r => max m r.cut) m ≤ 11 ∧ (∀ r ∈ l, r.cut ≤ l.foldl (fun m r => max m r.cut) m) ∧ (l.foldl (fun m r => max m r.cut) m = m ∨ ∃ r ∈ l, r.cut = l.foldl (fun m r => max m r.cut) m) := by
  intro l
  induction l with
  | nil => intro m h0 h1 _; exact ⟨Int.le_refl _, h1, fun r hr => (by cases hr), .inl rfl⟩
  | cons r l ih =>
   intro m h0 h1 hl
   have hr := hl r List.mem_cons_self
   obtain ⟨a, b, c, d⟩ := ih (max m r.cut) (by omega) (by omega) (fun q hq => hl q (List.mem_cons_of_mem _ hq))
   simp only [List.foldl_cons]
   refine ⟨by omega, b, fun q hq => ?_, ?_⟩
   ·rcases List.mem_cons.1 hq with rfl | hq
    ·omega
    ·exact c q hq
   ·rcases d with d | ⟨q, hq, d⟩
    ·by_cases hm : m ≤ r.cut
     ·exact .inr ⟨r, List.mem_cons_self, by omega⟩
     ·exact .inl (by omega)
    ·exact .inr ⟨q, List.mem_cons_of_mem _ hq, d⟩
 exact go rds 0 (by decide) (by decide) h
def fitsL (p : Pic) (f : Fnd) (start : Int) : List (List Int) := (List.range ((lastC p.rds).toNat + 1)).map fun (c : Nat) => phasesAt p.rds (p.lift f.head.toNat) f.throw f.adv start (c : Int)
def argB (p : Pic) (f : Fnd) (start : Int) : Bool :=
 (decide (0 ≤ f.head) && decide (f.head ≤ (p.hs.length : Int) - 1)) && ((decide (p.tl ≤ f.throw) && decide (f.throw ≤ p.th)) && ((decide (p.al ≤ f.adv) && decide (f.adv ≤ p.ah)) && ((decide (f.lo ≤ start) && decide (start ≤ f.hi)) && (decide (0 ≤ start) && decide (start ≤ 10000)))))
def fitsE (p : Pic) (f : Fnd) (start : Int) : Int := if picB p then (if argB p f start then (if (fitsL p f start).any (fun l => l.isEmpty) then 6 else 0) else 2) else 90
def fitsV (p : Pic) (f : Fnd) (start : Int) : List (List Int) := if fitsE p f start = 0 then fitsL p f start else []
def memI (l : List Int) (x : Int) : Bool := l.any fun y => decide (y = x)
def allowGo (L : List (List Int)) (steps n : Nat) (ph all : Int) : Nat → Nat → Bool
 | 0, _ => true
 | fuel + 1, j => if j < L.length then memI (L.getD j []) (ph % (steps : Int)) && allowGo L steps n (ph + all) all fuel (j + n) else true
def allowB (L : List (List Int)) (steps n : Nat) (r : Nat) (ph all : Int) : Bool := allowGo L steps n ph all L.length r
def shiftAt (L : List (List Int)) (steps n r : Nat) (ph all : Int) : Option Nat := (List.range steps).find? fun s => allowB L steps n r (ph + (s : Int)) all
def shiftsGo (L : List (List Int)) (steps n : Nat) (all : Int) : Nat → Nat → Int → List Int → Option (List Int × Int)
 | 0, _, ph, out => some (out, ph)
 | k + 1, r, ph, out => match shiftAt L steps n r ph all with
  | none => none
  | some s => shiftsGo L steps n all k (r + 1) (ph + (s : Int)) (out ++ [(s : Int)])
def listedL (L : List (List Int)) (steps n : Nat) (first all : Int) : Option (List Int) :=
 if allowB L steps n 0 first all then (match shiftsGo L steps n all (n - 1) 1 first [] with
  | none => none
  | some (out, ph) => some (out ++ [(all - (ph - first)) % (steps : Int)])) else none
def lessL : List Int → List Int → Bool
 | a :: l, b :: m => if a = b then lessL l m else decide (a < b)
 | _, _ => false
def betterL (best : Option (List Int)) (x : Option (List Int)) : Option (List Int) := match x, best with
 | none, b => b
 | some l, none => some l
 | some l, some b => if lessL l b then some l else some b
def bestL (L : List (List Int)) (steps n : Nat) (first : Int) : Option (List Int) := (List.range steps).foldl (fun b (all : Nat) => betterL b (listedL L steps n first (all : Int))) none
def firstSome {α : Type} (f : Nat → Option α) : List Nat → Option α
 | [] => none
 | k :: l => match f k with
  | some x => some x
  | none => firstSome f l
def simpleL (L : List (List Int)) (steps : Nat) : Option (Nat × List Int) := firstSome (fun n => firstSome (fun first => (bestL L steps (n + 1) (first : Int)).map fun l => (first, l)) (List.range steps)) (List.range 12)
theorem shiftsGo_length (L : List (List Int)) (steps n : Nat) (all : Int) : ∀ (k r : Nat) (ph : Int) (out l : List Int) (q : Int), shiftsGo L steps n all k r ph out = some (l, q) → l.length = out.length + k
 | 0, r, ph, out, l, q, h => by injection h with h; injection h with h1 h2; rw [← h1]; rfl
 | k + 1, r, ph, out, l, q, h => by
  unfold shiftsGo at h
  split at h
  ·cases h
  ·have := shiftsGo_length L steps n all k (r + 1) _ _ l q h
   rw [this, List.length_append]; simp; omega
theorem listedL_length {L : List (List Int)} {steps n : Nat} {first all : Int} {l : List Int} (hn : 0 < n) (h : listedL L steps n first all = some l) : l.length = n := by
 unfold listedL at h
 split at h
 ·split at h
  ·cases h
  ·rename_i out ph hs
   injection h with h
   have := shiftsGo_length _ _ _ _ _ _ _ _ _ _ hs
   rw [← h, List.length_append, this]; simp; omega
 ·cases h
theorem allowGo_mod (L : List (List Int)) (steps n : Nat) (all : Int) : ∀ (fuel j : Nat) (ph ph' : Int), ph % (steps : Int) = ph' % (steps : Int) → allowGo L steps n ph all fuel j = allowGo L steps n ph' all fuel j
 | 0, _, _, _, _ => rfl
 | fuel + 1, j, ph, ph', h => by
  unfold allowGo
  rw [h, allowGo_mod L steps n all fuel (j + n) (ph + all) (ph' + all) (by rw [Int.add_emod, h, ← Int.add_emod])]
theorem allowB_mod {L : List (List Int)} {steps n r : Nat} {all ph ph' : Int} (h : ph % (steps : Int) = ph' % (steps : Int)) : allowB L steps n r ph all = allowB L steps n r ph' all := allowGo_mod _ _ _ _ _ _ _ _ h
theorem allowGo_fuel (L : List (List Int)) (steps n : Nat) (all : Int) (hn : 0 < n) : ∀ (f g j : Nat) (ph : Int), L.length ≤ j + f → L.length ≤ j + g → allowGo L steps n ph all f j = allowGo L steps n ph all g j
 | 0, 0, _, _, _, _ => rfl
 | 0, g + 1, j, ph, h, _ => by unfold allowGo; rw [if_neg (by omega)]
 | f + 1, 0, j, ph, _, h => by unfold allowGo; rw [if_neg (by omega)]
 | f + 1, g + 1, j, ph, h, k => by
  unfold allowGo
  by_cases hj : j < L.length
  ·rw [if_pos hj, if_pos hj, allowGo_fuel L steps n all hn f g (j + n) (ph + all) (by omega) (by omega)]
  ·rw [if_neg hj, if_neg hj]
theorem allowB_step {L : List (List Int)} {steps n : Nat} {all : Int} (hn : 0 < n) (r : Nat) (ph : Int) : allowB L steps n r ph all = if r < L.length then memI (L.getD r []) (ph % (steps : Int)) && allowB L steps n (r + n) (ph + all) all else true := by
 unfold allowB
 rw [allowGo_fuel L steps n all hn L.length (L.length + 1) r ph (by omega) (by omega)]
 rfl
end Go.Proofs.Ytkblockodaiigaa
