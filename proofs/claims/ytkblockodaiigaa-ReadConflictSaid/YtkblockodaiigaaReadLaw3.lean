/- Conflicts among readings, plain; what is seen. -/
import Derived.Test.YtkblockodaiigaaReadLaw2
namespace Go.Proofs.Ytkblockodaiigaa
set_option maxRecDepth 100000
set_option linter.unusedVariables false
def subR (rds : List Rd) (l : List Int) : List Rd := l.map fun i => rds.getD i.toNat default
theorem subR_mem {rds : List Rd} {l : List Int} (h : ∀ i ∈ l, 0 ≤ i ∧ i < (rds.length : Int)) : ∀ r ∈ subR rds l, r ∈ rds := by
 intro r hr
 obtain ⟨i, hi, rfl⟩ := List.mem_map.1 hr
 obtain ⟨h0, h1⟩ := h i hi
 have hlt : i.toNat < rds.length := by omega
 rw [List.getD_eq_getElem?_getD, List.getElem?_eq_getElem hlt]
 exact List.getElem_mem hlt
def Pic.with (p : Pic) (rds : List Rd) : Pic := { p with rds := rds }
def anyB (p : Pic) : Bool := (List.range p.hs.length).any fun h => (upTo p.tl p.th).any fun t => (upTo p.al p.ah).any fun a => !(fitL p.rds (p.lift h) t a).isEmpty
theorem anyB_iff {p : Pic} : anyB p = true ↔ foundL p ≠ [] := by
 unfold anyB foundL
 simp only [List.any_eq_true, ne_eq, List.flatMap_eq_nil_iff, Classical.not_forall, exists_prop, foundA, List.map_eq_nil_iff, Bool.not_eq_true', List.isEmpty_eq_false_iff]
def someP (p : Pic) (l : List Int) : Bool := anyB (p.with (subR p.rds l))
def idxL (n : Nat) : List Int := (List.range n).map fun (k : Nat) => (k : Int)
def confGo (p : Pic) : Nat → List Int → List Int
 | 0, l => l
 | k + 1, l => confGo p k (if someP p (l.eraseIdx k) then l else l.eraseIdx k)
def confE (p : Pic) : Int := if picB p then (if someP p (idxL p.rds.length) then 6 else 0) else 90
def confL (p : Pic) : List Int := if confE p = 0 then confGo p p.rds.length (idxL p.rds.length) else []
def riseB (n : Int) : Int → List Int → Bool
 | _, [] => true
 | last, i :: l => decide (last < i) && (decide (i < n) && riseB n i l)
theorem riseB_mem {n : Int} : ∀ {l : List Int} {last : Int}, riseB n last l = true → ∀ i ∈ l, last < i ∧ i < n
 | [], _, _, i, hi => by cases hi
 | a :: l, last, h, i, hi => by
  unfold riseB at h
  simp only [Bool.and_eq_true, decide_eq_true_eq] at h
  rcases List.mem_cons.1 hi with rfl | hi
  ·exact ⟨h.1, h.2.1⟩
  ·have := riseB_mem h.2.2 i hi
   omega
theorem riseB_length {n : Int} : ∀ {l : List Int} {last : Int}, -1 ≤ last → riseB n last l = true → (l.length : Int) ≤ n - 1 - last ∨ l = []
 | [], _, _, _ => .inr rfl
 | a :: l, last, h0, h => by
  unfold riseB at h
  simp only [Bool.and_eq_true, decide_eq_true_eq] at h
  rcases riseB_length (last := a) (by omega) h.2.2 with h1 | rfl
  ·left; simp only [List.length_cons]; omega
  ·left; simp only [List.length_cons, List.length_nil]; omega
def ccE (p : Pic) (l : List Int) : Int := if picB p then (if riseB p.rds.length (-1) l then (if someP p l then 8 else if (List.range l.length).all (fun k => someP p (l.eraseIdx k)) then 0 else 8) else 8) else 90
theorem eraseIdx_split (l : List Int) (k : Nat) : l.eraseIdx k = l.take k ++ l.drop (k + 1) := List.eraseIdx_eq_take_drop_succ l k
end Go.Proofs.Ytkblockodaiigaa
