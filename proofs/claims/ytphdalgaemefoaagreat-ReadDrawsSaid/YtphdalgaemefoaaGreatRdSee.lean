/- What is seen of a program: read.See. -/
import Derived.Test.YtphdalgaemefoaaGreatP4Moire
import Derived.Test.YtphdalgaemefoaaGreatRdSome
import Derived.Test.YtphdalgaemefoaaGreatReb
namespace Go.Proofs.YtphdalgaemefoaaGreat
set_option maxRecDepth 100000
open Go.RowKit
set_option linter.unusedVariables false
set_option linter.unusedSimpArgs false
def seeRow (p : Prog) (noise : Int) (j k : Nat) : List Rd := (List.range k).map fun (i : Nat) => ⟨(j : Int), (i : Int), (cutL p j).getD i 0 - noise, (cutL p j).getD i 0 + noise⟩
def seeTo (p : Prog) (noise : Int) (j : Nat) : List Rd := (List.range j).flatMap fun (j : Nat) => seeRow p noise j p.ros.length
def seeE (p : Prog) (cuts noise : Int) : Int := if progE p ≠ 0 then progE p else if !(within cuts 1 12 && within noise 0 1000) then 2 else if 60 < cuts * (p.ros.length : Int) then 4 else 0
def seeV (p : Prog) (cuts noise : Int) : List Rd := if seeE p cuts noise = 0 then seeTo p noise cuts.toNat else []
theorem see_bad {p : Prog} {cuts noise E : Int} (h : seeE p cuts noise = E) (h0 : E ≠ 0) : seeE p cuts noise = E ∧ seeV p cuts noise = [] := ⟨h, by unfold seeV; rw [h, if_neg h0]⟩
theorem see_prog {p : Prog} {cuts noise E : Int} (hE : progE p = E) (h0 : E ≠ 0) : seeE p cuts noise = E ∧ seeV p cuts noise = [] := see_bad (by unfold seeE; rw [hE, if_pos h0]) h0
theorem see_arg {p : Prog} {cuts noise : Int} (hE : progE p = 0) (h : (within cuts 1 12 && within noise 0 1000) = false) : seeE p cuts noise = 2 ∧ seeV p cuts noise = [] := see_bad (by unfold seeE; rw [hE, if_neg (by decide), h]; rfl) (by decide)
theorem see_many {p : Prog} {cuts noise : Int} (hE : progE p = 0) (h : (within cuts 1 12 && within noise 0 1000) = true) (h6 : 60 < cuts * (p.ros.length : Int)) : seeE p cuts noise = 4 ∧ seeV p cuts noise = [] := see_bad (by unfold seeE; rw [hE, if_neg (by decide), h, if_neg (by decide), if_pos h6]) (by decide)
theorem see_ok {p : Prog} {cuts noise : Int} (hE : progE p = 0) (h : (within cuts 1 12 && within noise 0 1000) = true) (h6 : ¬ 60 < cuts * (p.ros.length : Int)) : seeE p cuts noise = 0 ∧ seeV p cuts noise = seeTo p noise cuts.toNat := by
 have e : seeE p cuts noise = 0 := by unfold seeE; rw [hE, if_neg (by decide), h, if_neg (by decide), if_neg h6]
 exact ⟨e, by unfold seeV; rw [e, if_pos rfl]⟩
theorem seeRow_succ (p : Prog) (noise : Int) (j k : Nat) : seeRow p noise j (k + 1) = seeRow p noise j k ++ [⟨(j : Int), (k : Int), (cutL p j).getD k 0 - noise, (cutL p j).getD k 0 + noise⟩] := by unfold seeRow; rw [List.range_succ, List.map_append]; rfl
theorem seeTo_succ (p : Prog) (noise : Int) (j : Nat) : seeTo p noise (j + 1) = seeTo p noise j ++ seeRow p noise j p.ros.length := by unfold seeTo; rw [List.range_succ, List.flatMap_append]; simp
theorem seeRow_length (p : Prog) (noise : Int) (j k : Nat) : (seeRow p noise j k).length = k := by simp [seeRow]
theorem seeTo_length (p : Prog) (noise : Int) (j : Nat) : (seeTo p noise j).length = j * p.ros.length := by
 induction j with
 | zero => simp [seeTo]
 | succ j ih => rw [seeTo_succ, List.length_append, ih, seeRow_length, Nat.add_mul, Nat.one_mul]
theorem cutL_bound {p : Prog} (hp : BenchFacts p) (j : Nat) (hj : j ≤ 11) (i : Nat) (hi : i < p.ros.length) : -11000 ≤ (cutL p j).getD i 0 ∧ (cutL p j).getD i 0 ≤ 181000 := by
 have hl : i < (cutL p j).length := by rw [cutL_length]; exact hi
 rw [List.getD_eq_getElem?_getD, List.getElem?_eq_getElem hl]
 show -11000 ≤ (cutL p j)[i] ∧ (cutL p j)[i] ≤ 181000
 rw [cutL_get]
 have hlo := rosOk_iff.1 (lift_ok hp.ros hp.rub)
 obtain ⟨q, hq, -, e⟩ := atR_rep (liftL p.ros p.rub) (by omega) ((i : Int) - phaseI p j)
 rw [e]
 have hb := hlo.2.2 q hq
 have h1 := hp.start
 have h2 := hp.throw
 have h3 := hp.adv
 have m1 := Int.mul_nonneg (show (0 : Int) ≤ p.throw by omega) hb.1
 have m2 := Int.mul_le_mul h2.2 hb.2 hb.1 (by decide)
 have m3 := Int.mul_le_mul_of_nonneg_left h3.1 (show (0 : Int) ≤ (j : Int) by omega)
 have m4 := Int.mul_le_mul_of_nonneg_left h3.2 (show (0 : Int) ≤ (j : Int) by omega)
 omega
def SeeI (W1 : World) (L : List Rd) (vo : Value) (W : World) : Prop := Below W1.heap.size W1 W ∧ W.ownsRow W1.heap.size 54 4 vo L.length (L.flatMap rdEnc)
theorem box_kept {w w' : World} {base e size n X : Nat} {v : Value} {xs : List Value} {cs : Array Value} {t : TypeId} (h : w.ownsRow base e size v n xs) (hg : w.grownBy w' v.ownBlock) (hX : w.heap[X]? = some (.cells cs t (0, 0))) (ht : e ≠ t) : w'.heap[X]? = some (.cells cs t (0, 0)) := by
 refine (hg.block X (gsl hX) (fun he => ?_)).trans hX
 rcases h.2 with ⟨rfl, _⟩ | ⟨g, cap, cur, rfl, -, hh, -⟩
 ·simp [Value.ownBlock] at he
 ·have : X = g := by simpa [Value.ownBlock] using he
  subst this
  rw [hX] at hh
  injection hh with hh
  injection hh with _ hh
  exact ht hh.symm
def SeeJ (W1 : World) (L : List Rd) (gc : Nat) (cur : Array Value) (vo : Value) (W : World) : Prop := Below W1.heap.size W1 W ∧ W.ownsRow W1.heap.size 54 4 vo L.length (L.flatMap rdEnc) ∧ W.heap[gc]? = some (.cells cur 3 (0, 0))
end Go.Proofs.YtphdalgaemefoaaGreat
