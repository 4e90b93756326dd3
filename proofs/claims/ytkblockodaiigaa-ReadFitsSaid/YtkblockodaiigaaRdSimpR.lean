/- The reference's Simplest. -/
import Derived.Test.YtkblockodaiigaaRdFitsW
namespace Go.Proofs.Ytkblockodaiigaa
set_option maxRecDepth 100000
open Go.RowKit
set_option linter.unusedVariables false
set_option linter.unusedSimpArgs false
def bestTo (L : List (List Int)) (steps n : Nat) (first : Int) (k : Nat) : Option (List Int) := (List.range k).foldl (fun b (all : Nat) => betterL b (listedL L steps n first (all : Int))) none
theorem bestTo_succ (L : List (List Int)) (steps n : Nat) (first : Int) (k : Nat) : bestTo L steps n first (k + 1) = betterL (bestTo L steps n first k) (listedL L steps n first (k : Int)) := by
 unfold bestTo; rw [List.range_succ, List.foldl_append]; rfl
theorem bestTo_length {L : List (List Int)} {steps n : Nat} {first : Int} (hn : 0 < n) : ∀ (k : Nat) (l : List Int), bestTo L steps n first k = some l → l.length = n
 | 0, l, h => by cases h
 | k + 1, l, h => by
  rw [bestTo_succ] at h
  unfold betterL at h
  split at h
  ·exact bestTo_length hn k l h
  ·rename_i x hx _
   injection h with h
   rw [← h]; exact listedL_length hn hx
  ·rename_i x b hx hb
   split at h
   ·injection h with h
    rw [← h]; exact listedL_length hn hx
   ·injection h with h
    rw [← h]; exact bestTo_length hn k b hb
theorem bestL_eq (L : List (List Int)) (steps n : Nat) (first : Int) : bestL L steps n first = bestTo L steps n first steps := rfl
theorem firstSome_none {α : Type} {f : Nat → Option α} : ∀ {l : List Nat}, (∀ k ∈ l, f k = none) → firstSome f l = none
 | [], _ => rfl
 | k :: l, h => by
  unfold firstSome
  rw [h k List.mem_cons_self]
  exact firstSome_none fun q hq => h q (List.mem_cons_of_mem _ hq)
theorem firstSome_append {α : Type} {f : Nat → Option α} : ∀ {l m : List Nat}, (∀ k ∈ l, f k = none) → firstSome f (l ++ m) = firstSome f m
 | [], _, _ => rfl
 | k :: l, m, h => by
  show firstSome f (k :: (l ++ m)) = _
  unfold firstSome
  rw [h k List.mem_cons_self]
  exact (firstSome_append fun q hq => h q (List.mem_cons_of_mem _ hq)).trans (by cases m <;> rfl)
theorem firstSome_range {α : Type} {f : Nat → Option α} {n k : Nat} {x : α} (hk : k < n) (hx : f k = some x) (h : ∀ j, j < k → f j = none) : firstSome f (List.range n) = some x := by
 have e : List.range n = List.range k ++ (List.range (n - k)).map (k + ·) := by
  rw [← List.range_add]; congr 1; omega
 rw [e, firstSome_append fun j hj => h j (List.mem_range.1 hj)]
 obtain ⟨d, hd⟩ : ∃ d, n - k = d + 1 := ⟨n - k - 1, by omega⟩
 rw [hd, List.range_succ_eq_map, List.map_cons]
 unfold firstSome
 rw [Nat.add_zero, hx]
theorem simple_some {L : List (List Int)} {steps n first : Nat} {l : List Int} (hn : 1 ≤ n) (hn2 : n ≤ 12) (hf : first < steps) (hb : bestL L steps n (first : Int) = some l) (h1 : ∀ k, 1 ≤ k → k < n → ∀ j, j < steps → bestL L steps k (j : Int) = none) (h2 : ∀ j, j < first → bestL L steps n (j : Int) = none) : simpleL L steps = some (first, l) := by
 unfold simpleL
 refine firstSome_range (k := n - 1) (by omega) ?_ fun k hk => ?_
 ·rw [show n - 1 + 1 = n by omega]
  exact firstSome_range hf (by rw [hb]; rfl) fun j hj => by rw [h2 j hj]; rfl
 ·exact firstSome_none fun j hj => by rw [h1 (k + 1) (by omega) (by omega) j (List.mem_range.1 hj)]; rfl
theorem simple_none {L : List (List Int)} {steps : Nat} (h1 : ∀ k, 1 ≤ k → k < 13 → ∀ j, j < steps → bestL L steps k (j : Int) = none) : simpleL L steps = none := by
 unfold simpleL
 exact firstSome_none fun k hk => firstSome_none fun j hj => by rw [h1 (k + 1) (by omega) (by have := List.mem_range.1 hk; omega) j (List.mem_range.1 hj)]; rfl
def simpE (p : Pic) (f : Fnd) (start : Int) : Int := if fitsE p f start = 0 then (if simpleL (fitsV p f start) p.steps = none then 6 else 0) else fitsE p f start
def simpP (p : Pic) (f : Fnd) (start : Int) : Prog := if fitsE p f start = 0 then (match simpleL (fitsV p f start) p.steps with
 | some (first, l) => ⟨movedL (p.hs.getD f.head.toNat default).ros (first : Int), (p.hs.getD f.head.toNat default).rub, start, f.throw, f.adv, l⟩
 | none => ⟨[], [], 0, 0, 0, []⟩) else ⟨[], [], 0, 0, 0, []⟩
theorem zeroProg (w : World) : IsProg w (.agg #[.slice none 0 0, .slice none 0 0, .int .i64 0, .int .i64 0, .int .i64 0, .slice none 0 0]) ⟨[], [], 0, 0, 0, []⟩ := ⟨_, _, _, rfl, Arr.nil _ _, Arr.nil _ _, Arr.nil _ _⟩
end Go.Proofs.Ytkblockodaiigaa
