/- The reference's whole and both. How many ranges there are, and how great; plain. -/
import Derived.Test.YtphdalgaemefoaaGreatRdJoinR
import Derived.Test.YtphdalgaemefoaaGreatRdStartR
namespace Go.Proofs.YtphdalgaemefoaaGreat
set_option maxRecDepth 100000
open Go.RowKit
set_option linter.unusedVariables false
set_option linter.unusedSimpArgs false
theorem SpB.of_in {L : List Spn} (hn : Nm L) (h : ∀ x, inL L x → -2000000000000 ≤ x ∧ x ≤ 2000000000000) : SpB L := fun s hs => by
 have hv := hn.1 s hs
 exact ⟨h s.1 ⟨s, hs, Int.le_refl _, hv⟩, h s.2 ⟨s, hs, hv, Int.le_refl _⟩⟩
theorem SpB.in {L : List Spn} (h : SpB L) {x : Int} (hx : inL L x) : -2000000000000 ≤ x ∧ x ≤ 2000000000000 := by
 obtain ⟨s, hs, h1, h2⟩ := hx
 have := h s hs
 omega
theorem SpB.joined {l : List Spn} {x : Spn} (hn : Nm l) (h : SpB l) (hx : SpB [x]) : SpB (joinedL l x) := by
 refine SpB.of_in (joined_nm hn).1 fun y hy => ?_
 rcases ((joined_nm hn).2 y).1 hy with q | q
 ·exact h.in q
 ·have := hx x List.mem_cons_self; omega
theorem joinR_length : ∀ (l : List Spn) (x : Spn), (joinR l x).length ≤ l.length + 1
 | [], x => by unfold joinR; simp
 | s :: l, x => by
  unfold joinR
  split
  ·have := joinR_length l x; simp; omega
  ·split
   ·simp
   ·have := joinR_length l (min x.1 s.1, max x.2 s.2); simp; omega
theorem joined_length (l : List Spn) (x : Spn) : (joinedL l x).length ≤ l.length + 1 := by
 unfold joinedL
 split
 ·omega
 ·exact joinR_length l x
theorem fold_joined {l : List Spn} (hl : SpB l) : ∀ (o : List Spn), Nm o → SpB o → Nm (l.foldl joinedL o) ∧ SpB (l.foldl joinedL o) ∧ (l.foldl joinedL o).length ≤ o.length + l.length := by
 induction l with
 | nil => intro o h1 h2; exact ⟨h1, h2, Nat.le_refl _⟩
 | cons x l ih =>
  intro o h1 h2
  have hx : SpB [x] := fun s hs => by rw [List.mem_singleton] at hs; rw [hs]; exact hl x List.mem_cons_self
  obtain ⟨a, b, c⟩ := ih (fun s hs => hl s (List.mem_cons_of_mem _ hs)) _ (joined_nm (x := x) h1).1 (SpB.joined h1 h2 hx)
  have := joined_length o x
  exact ⟨a, b, by simp only [List.foldl_cons, List.length_cons]; omega⟩
def pairsL (a : Spn) (B : List Spn) : List Spn := B.map fun b => (max a.1 b.1, min a.2 b.2)
theorem bothL_eq (A B : List Spn) : bothL A B = (A.flatMap fun a => pairsL a B).foldl joinedL [] := rfl
theorem pairs_spb {A B : List Spn} (ha : SpB A) (hb : SpB B) : SpB (A.flatMap fun a => pairsL a B) := fun s hs => by
 obtain ⟨a, h1, h2⟩ := List.mem_flatMap.1 hs
 obtain ⟨b, h3, rfl⟩ := List.mem_map.1 h2
 have := ha a h1
 have := hb b h3
 simp only
 omega
def pairsM (A B : List Spn) (i k : Nat) : List Spn := ((A.take i).flatMap fun a => pairsL a B) ++ pairsL (A.getD i (0, 0)) (B.take k)
theorem pairs_len (A B : List Spn) : (A.flatMap fun a => pairsL a B).length = A.length * B.length := by
 induction A with
 | nil => simp
 | cons a A ih => rw [List.flatMap_cons, List.length_append, ih, List.length_cons, Nat.add_mul, Nat.one_mul]; unfold pairsL; rw [List.length_map]; omega
theorem pairsM_facts {A B : List Spn} (ha : SpB A) (hb : SpB B) (hla : A.length ≤ 400) (hlb : B.length ≤ 200) {i k : Nat} (hi : i < A.length) : Nm ((pairsM A B i k).foldl joinedL []) ∧ SpB ((pairsM A B i k).foldl joinedL []) ∧ ((pairsM A B i k).foldl joinedL []).length ≤ 100000 := by
 have hg : A.getD i (0, 0) = A[i] := by rw [List.getD_eq_getElem?_getD, List.getElem?_eq_getElem hi]; rfl
 have hs : SpB (pairsM A B i k) := fun s h => by
  unfold pairsM at h
  rw [hg] at h
  have hx : s ∈ A.flatMap fun a => pairsL a B := by
   rcases List.mem_append.1 h with h | h
   ·obtain ⟨a, h1, h2⟩ := List.mem_flatMap.1 h
    exact List.mem_flatMap.2 ⟨a, List.mem_of_mem_take h1, h2⟩
   ·obtain ⟨b, h1, h2⟩ := List.mem_map.1 h
    exact List.mem_flatMap.2 ⟨A[i], List.getElem_mem hi, List.mem_map.2 ⟨b, List.mem_of_mem_take h1, h2⟩⟩
  exact pairs_spb ha hb s hx
 obtain ⟨h1, h2, h3⟩ := fold_joined hs [] nm_nil (fun s h => by cases h)
 have hl : (pairsM A B i k).length ≤ 400 * 200 + 200 := by
  unfold pairsM
  rw [List.length_append, pairs_len]
  have a1 : (A.take i).length * B.length ≤ 400 * 200 := Nat.mul_le_mul (by rw [List.length_take]; omega) hlb
  have a2 : (pairsL (A.getD i (0, 0)) (B.take k)).length ≤ 200 := by unfold pairsL; rw [List.length_map, List.length_take]; omega
  omega
 exact ⟨h1, h2, by simp at h3; omega⟩
theorem pairsM_zero (A B : List Spn) (i : Nat) : pairsM A B i 0 = (A.take i).flatMap fun a => pairsL a B := by unfold pairsM pairsL; simp
theorem pairsM_step {A B : List Spn} {i k : Nat} (hi : i < A.length) (hk : k < B.length) : (pairsM A B i (k + 1)).foldl joinedL [] = joinedL ((pairsM A B i k).foldl joinedL []) (max A[i].1 B[k].1, min A[i].2 B[k].2) := by
 have hg : A.getD i (0, 0) = A[i] := by rw [List.getD_eq_getElem?_getD, List.getElem?_eq_getElem hi]; rfl
 unfold pairsM pairsL
 rw [List.take_succ_eq_append_getElem hk, List.map_append, ← List.append_assoc, List.foldl_append, hg]
 rfl
theorem pairsM_end {A B : List Spn} {i : Nat} (hi : i < A.length) : pairsM A B i B.length = pairsM A B (i + 1) 0 := by
 have hg : A.getD i (0, 0) = A[i] := by rw [List.getD_eq_getElem?_getD, List.getElem?_eq_getElem hi]; rfl
 rw [pairsM_zero]
 unfold pairsM
 rw [List.take_length, hg, List.take_succ_eq_append_getElem hi, List.flatMap_append]
 simp
theorem spb_mono {A B : List Spn} (h : SpB B) (hs : ∀ s ∈ A, s ∈ B) : SpB A := fun s q => h s (hs s q)
end Go.Proofs.YtphdalgaemefoaaGreat
namespace Go.Proofs.YtphdalgaemefoaaGreat
set_option maxRecDepth 100000
set_option linter.unusedVariables false
theorem meetL_length : ∀ A B : List Spn, (meetL A B).length ≤ A.length + B.length
 | [], B => by unfold meetL; simp
 | a :: la, [] => by unfold meetL; simp
 | a :: la, b :: lb => by
  unfold meetL
  simp only
  split
  ·split
   ·have h1 := meetL_length la (b :: lb)
    simp only [List.length_cons] at h1 ⊢
    omega
   ·have h2 := meetL_length (a :: la) lb
    simp only [List.length_cons] at h2 ⊢
    omega
  ·split
   ·have h1 := meetL_length la (b :: lb)
    simp only [List.length_cons] at h1 ⊢
    omega
   ·have h2 := meetL_length (a :: la) lb
    simp only [List.length_cons] at h2 ⊢
    omega
termination_by A B => A.length + B.length
theorem bothL_length {A B : List Spn} (ha : Nm A) (hb : Nm B) : (bothL A B).length ≤ A.length + B.length := by rw [← meet_both ha hb]; exact meetL_length A B
theorem bothL_nil (B : List Spn) : bothL [] B = [] := rfl
def cutsF (rds : List Rd) (lift : List Int) (throw adv : Int) (cut : Nat) (k : Nat) : List Spn := ((List.range k).map fun ph => startS rds lift throw adv (cut : Int) ph).foldl joinedL []
theorem cutsF_zero (rds : List Rd) (lift : List Int) (throw adv : Int) (cut : Nat) : cutsF rds lift throw adv cut 0 = [] := rfl
theorem cutsF_succ (rds : List Rd) (lift : List Int) (throw adv : Int) (cut k : Nat) : cutsF rds lift throw adv cut (k + 1) = joinedL (cutsF rds lift throw adv cut k) (startS rds lift throw adv (cut : Int) k) := by
 unfold cutsF; rw [List.range_succ, List.map_append, List.foldl_append]; rfl
theorem cutsF_all (rds : List Rd) (lift : List Int) (throw adv : Int) (cut : Nat) : cutsF rds lift throw adv cut lift.length = normL ((List.range lift.length).map fun ph => startS rds lift throw adv (cut : Int) ph) := rfl
def fitGo (rds : List Rd) (lift : List Int) (throw adv : Int) (k : Nat) : List Spn :=
 (List.range k).foldl (fun (o : List Spn) (cut : Nat) => bothL o (normL ((List.range lift.length).map fun ph => startS rds lift throw adv (cut : Int) ph))) [(0, 10000)]
theorem fitGo_zero (rds : List Rd) (lift : List Int) (throw adv : Int) : fitGo rds lift throw adv 0 = [(0, 10000)] := rfl
theorem fitGo_succ (rds : List Rd) (lift : List Int) (throw adv : Int) (k : Nat) : fitGo rds lift throw adv (k + 1) = bothL (fitGo rds lift throw adv k) (cutsF rds lift throw adv k lift.length) := by
 unfold fitGo; rw [List.range_succ, List.foldl_append]; rfl
theorem fitGo_all (rds : List Rd) (lift : List Int) (throw adv : Int) : fitGo rds lift throw adv 12 = fitL rds lift throw adv := rfl
theorem fitGo_nil {rds : List Rd} {lift : List Int} {throw adv : Int} {k : Nat} (h : fitGo rds lift throw adv k = []) : ∀ n, fitGo rds lift throw adv (k + n) = []
 | 0 => h
 | n + 1 => by rw [← Nat.add_assoc, fitGo_succ, fitGo_nil h n]; exact bothL_nil _
section
variable {n : Nat} {rds : List Rd} {lift : List Int} {throw adv : Int}
theorem startS_spb (hr : ∀ r ∈ rds, RdOk n r) (hl : rosOk lift = true) (ht : 0 ≤ throw ∧ throw ≤ 16) (ha : -1000 ≤ adv ∧ adv ≤ 1000) {cut : Nat} (hc : cut ≤ 11) (ph : Nat) : SpB [startS rds lift throw adv (cut : Int) ph] := fun s hs => by
 rw [List.mem_singleton] at hs
 obtain ⟨a, b, c, d⟩ := startS_bound (ph := ph) hr hl ht ha (cut := (cut : Int)) ⟨by omega, by omega⟩ (0, 10000) (by decide) (by decide) (by decide) (by decide)
 rw [hs, startS_eq]
 omega
theorem cutsF_facts (hr : ∀ r ∈ rds, RdOk n r) (hl : rosOk lift = true) (ht : 0 ≤ throw ∧ throw ≤ 16) (ha : -1000 ≤ adv ∧ adv ≤ 1000) {cut : Nat} (hc : cut ≤ 11) (k : Nat) : Nm (cutsF rds lift throw adv cut k) ∧ SpB (cutsF rds lift throw adv cut k) ∧ (cutsF rds lift throw adv cut k).length ≤ k := by
 have hs : SpB ((List.range k).map fun ph => startS rds lift throw adv (cut : Int) ph) := fun s h => by
  obtain ⟨ph, -, rfl⟩ := List.mem_map.1 h
  exact startS_spb hr hl ht ha hc ph _ (List.mem_singleton.2 rfl)
 obtain ⟨h1, h2, h3⟩ := fold_joined hs [] nm_nil (fun s h => by cases h)
 exact ⟨h1, h2, by rw [List.length_map, List.length_range, List.length_nil, Nat.zero_add] at h3; exact h3⟩
theorem fitGo_facts (hr : ∀ r ∈ rds, RdOk n r) (hl : rosOk lift = true) (ht : 0 ≤ throw ∧ throw ≤ 16) (ha : -1000 ≤ adv ∧ adv ≤ 1000) : ∀ k, k ≤ 12 → Nm (fitGo rds lift throw adv k) ∧ SpB (fitGo rds lift throw adv k) ∧ (fitGo rds lift throw adv k).length ≤ 1 + k * lift.length
 | 0, _ => ⟨nm_one (by decide), fun s hs => by rw [fitGo_zero, List.mem_singleton] at hs; subst hs; decide, by simp [fitGo_zero]⟩
 | k + 1, h => by
  obtain ⟨a1, a2, a3⟩ := fitGo_facts hr hl ht ha k (by omega)
  obtain ⟨b1, b2, b3⟩ := cutsF_facts hr hl ht ha (cut := k) (by omega) lift.length
  rw [fitGo_succ]
  refine ⟨(both_nm _ _).1, ?_, ?_⟩
  ·have hp := pairs_spb a2 b2
   rw [bothL_eq]
   exact (fold_joined hp [] nm_nil (fun s h => by cases h)).2.1
  ·have := bothL_length a1 b1
   rw [Nat.add_mul, Nat.one_mul]
   omega
end
end Go.Proofs.YtphdalgaemefoaaGreat
