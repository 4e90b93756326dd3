/- Read, drawn, and read again: plain laws of ReadAgain. -/
import Derived.Test.YtphdalgaemefoaaGreatTrueLaw
namespace Go.Proofs.YtphdalgaemefoaaGreat
set_option maxRecDepth 100000
set_option linter.unusedVariables false
theorem atR_movedA (f : List Int) (h0 : 0 < f.length) (s i : Int) : atR (movedL f s) i = atR f (i - s) := by
 have h1 := Int.emod_nonneg i (show (f.length : Int) ≠ 0 by omega)
 have h2 := Int.emod_lt_of_pos i (show (0 : Int) < (f.length : Int) by omega)
 obtain ⟨m, hm⟩ : ∃ m : Nat, i % (f.length : Int) = (m : Int) := ⟨_, (Int.toNat_of_nonneg h1).symm⟩
 have hml : m < f.length := by omega
 have e1 : atR (movedL f s) i = atR (movedL f s) (m : Int) := atR_mod _ _ _ (by rw [movedL_length, hm]; exact (Int.emod_eq_of_lt (by omega) (by omega)).symm)
 rw [e1, atR_nat m (by rw [movedL_length]; exact hml), movedL_get f s m hml]
 exact atR_mod _ _ _ (by rw [← hm, Int.emod_sub_emod])
theorem lift_mostA {f b : List Int} (hf : rosOk f = true) (hb : rubOk b f.length = true) (i : Int) :
  (∀ j, j < b.length → atR f (i + ((j : Int) - (b.length : Int) / 2)) - b.getD j 0 ≤ atR (liftL f b) i) ∧ ∃ j, j < b.length ∧ atR (liftL f b) i = atR f (i + ((j : Int) - (b.length : Int) / 2)) - b.getD j 0 := by
 have h0 := (rosOk_iff.1 hf).1
 have hb0 := (rubOk_iff.1 hb).1
 have h1 := Int.emod_nonneg i (show (f.length : Int) ≠ 0 by omega)
 have h2 := Int.emod_lt_of_pos i (show (0 : Int) < (f.length : Int) by omega)
 obtain ⟨m, hm⟩ : ∃ m : Nat, i % (f.length : Int) = (m : Int) := ⟨_, (Int.toNat_of_nonneg h1).symm⟩
 have hml : m < f.length := by omega
 have e1 : atR (liftL f b) i = pickN b.length (pickX f b 1 liftM m) liftK b.length := by
  rw [← liftL_getElem f b m hml, ← atR_nat m (by rw [liftL_length]; exact hml)]
  exact atR_mod _ _ _ (by rw [liftL_length, hm]; exact (Int.emod_eq_of_lt (by omega) (by omega)).symm)
 have e2 : ∀ j : Nat, pickX f b 1 liftM m j = atR f (i + ((j : Int) - (b.length : Int) / 2)) - b.getD j 0 := fun j => by
  rw [pickX_lift]
  congr 1
  exact atR_mod _ _ _ (by rw [← hm, Int.emod_add_emod])
 rw [e1]
 refine ⟨fun j hj => ?_, ?_⟩
 ·rw [← e2]
  exact pickN_ge _ _ _ j hj
 ·obtain ⟨j, hj, he⟩ := pickN_mem b.length (pickX f b 1 liftM m) b.length (by omega)
  exact ⟨j, hj, by rw [he, e2]⟩
theorem moved_ros {f : List Int} (hf : rosOk f = true) (s : Int) : rosOk (movedL f s) = true := by
 have h := rosOk_iff.1 hf
 refine rosOk_iff.2 ⟨by rw [movedL_length]; exact h.1, by rw [movedL_length]; exact h.2.1, fun i hi => ?_⟩
 rw [movedL_length] at hi
 rw [movedL_get f s i hi]
 obtain ⟨q, hq, -, e⟩ := atR_rep f (by omega) ((i : Int) - s)
 rw [e]
 exact h.2.2 q hq
theorem moved_lift {f b : List Int} (hf : rosOk f = true) (hb : rubOk b f.length = true) (s i : Int) : atR (liftL (movedL f s) b) i = atR (liftL f b) (i - s) := by
 have h0 := (rosOk_iff.1 hf).1
 obtain ⟨a1, j1, k1, e1⟩ := lift_mostA (moved_ros hf s) (by rw [movedL_length]; exact hb) i
 obtain ⟨a2, j2, k2, e2⟩ := lift_mostA hf hb (i - s)
 have key : ∀ j : Int, atR (movedL f s) (i + j) = atR f (i - s + j) := fun j => by
  rw [atR_movedA f (by omega)]
  congr 1
  omega
 have m1 := a2 j1 k1
 have m2 := a1 j2 k2
 rw [key] at e1 m2
 omega
section
variable {L L' : List (List Int)} {n : Nat} {c : Int}
theorem shift_allow (hl : L'.length = L.length) (hm : ∀ (j : Nat) (a : Int), memI (L'.getD j []) (a % (n : Int)) = memI (L.getD j []) ((a + c) % (n : Int))) {k r : Nat} (hk : 0 < k) (ph all : Int) : allowB L' n k r ph all = allowB L n k r (ph + c) all := by
 rw [Bool.eq_iff_iff, allowB_iff' hk, allowB_iff' hk, hl]
 refine forall_congr' fun i => ?_
 rw [hm, show ph + (i : Int) * all + c = ph + c + (i : Int) * all by omega]
theorem shift_at (hl : L'.length = L.length) (hm : ∀ (j : Nat) (a : Int), memI (L'.getD j []) (a % (n : Int)) = memI (L.getD j []) ((a + c) % (n : Int))) {k r : Nat} (hk : 0 < k) (ph all : Int) : shiftAt L' n k r ph all = shiftAt L n k r (ph + c) all := by
 unfold shiftAt
 congr 1
 funext s
 rw [shift_allow hl hm hk, show ph + (s : Int) + c = ph + c + (s : Int) by omega]
theorem shift_go (hl : L'.length = L.length) (hm : ∀ (j : Nat) (a : Int), memI (L'.getD j []) (a % (n : Int)) = memI (L.getD j []) ((a + c) % (n : Int))) {k : Nat} (hk : 0 < k) (all : Int) : ∀ (m r : Nat) (ph : Int) (out : List Int), shiftsGo L' n k all m r ph out = (shiftsGo L n k all m r (ph + c) out).map fun x => (x.1, x.2 - c)
 | 0, r, ph, out => by
  show some (out, ph) = some (out, ph + c - c)
  rw [Int.add_sub_cancel]
 | m + 1, r, ph, out => by
  unfold shiftsGo
  rw [shift_at hl hm hk]
  cases shiftAt L n k r (ph + c) all with
  | none => rfl
  | some s =>
   simp only
   rw [shift_go hl hm hk all m (r + 1) (ph + (s : Int)) (out ++ [(s : Int)]), show ph + (s : Int) + c = ph + c + (s : Int) by omega]
theorem shift_listed (hl : L'.length = L.length) (hm : ∀ (j : Nat) (a : Int), memI (L'.getD j []) (a % (n : Int)) = memI (L.getD j []) ((a + c) % (n : Int))) {k : Nat} (hk : 0 < k) (f1 all : Int) : listedL L' n k f1 all = listedL L n k (f1 + c) all := by
 unfold listedL
 rw [shift_allow hl hm hk, shift_go hl hm hk]
 cases shiftsGo L n k all (k - 1) 1 (f1 + c) [] with
 | none => rfl
 | some x =>
  obtain ⟨o, q⟩ := x
  simp only [Option.map_some]
  rw [show q - c - f1 = q - (f1 + c) by omega]
theorem shift_best (hl : L'.length = L.length) (hm : ∀ (j : Nat) (a : Int), memI (L'.getD j []) (a % (n : Int)) = memI (L.getD j []) ((a + c) % (n : Int))) {k : Nat} (hk : 0 < k) (f1 : Int) : bestL L' n k f1 = bestL L n k (f1 + c) := by
 unfold bestL
 congr 1
 funext b all
 rw [shift_listed hl hm hk]
theorem best_mod {k : Nat} (hk : 0 < k) {a b : Int} (h : a % (n : Int) = b % (n : Int)) : bestL L n k a = bestL L n k b := by
 have e := shift_best (L' := L) (L := L) (n := n) (c := b - a) rfl (fun j x => by
  congr 1
  have h1 : (b - a) % (n : Int) = 0 := by rw [Int.sub_emod, h, Int.sub_self, Int.zero_emod]
  rw [Int.add_emod, h1, Int.add_zero, Int.emod_emod]) hk a
 rw [e]
 congr 1
 omega
theorem shift_simple {first : Nat} {l : List Int} (hl : L'.length = L.length) (hm : ∀ (j : Nat) (a : Int), memI (L'.getD j []) (a % (n : Int)) = memI (L.getD j []) ((a + (first : Int)) % (n : Int))) (h : simpleL L n = some (first, l)) : simpleL L' n = some (0, l) := by
 obtain ⟨k, k1, k2, hf, e1, e2, e3⟩ := simple_spec h
 refine simple_some k1 k2 (by omega) ?_ (fun m m1 m2 j hj => ?_) (fun j hj => absurd hj (Nat.not_lt_zero _))
 ·rw [shift_best hl hm (by omega)]
  rw [show (((0 : Nat) : Int) + (first : Int)) = (first : Int) by omega]
  exact e1
 ·rw [shift_best hl hm (by omega), best_mod (n := n) (b := (((j + first) % n : Nat) : Int)) (by omega) (by rw [Int.natCast_emod, Int.emod_emod]; congr 1)]
  exact e2 m m1 m2 _ (Nat.mod_lt _ (by omega))
end
theorem few_all (L : List Rd) : fewTo [] L L.length = L := by
 have h : ∀ k, k ≤ L.length → fewTo [] L k = L.take k := by
  intro k
  induction k with
  | zero => intro _; rfl
  | succ k ih =>
   intro hk
   have hl : k < L.length := by omega
   rw [fewTo_succ, ih (by omega), List.take_succ_eq_append_getElem hl]
   have e : L.getD k default = L[k] := by rw [List.getD_eq_getElem?_getD, List.getElem?_eq_getElem hl]; rfl
   rw [e]
   rfl
 rw [h _ (Nat.le_refl _), List.take_length]
def againF (p : Prog) : Fnd := ⟨0, p.throw, p.adv, p.start, p.start⟩
theorem again_own {p : Prog} (h : 3 ≤ p.ros.length) : twoB p [] = false ∧ lastH p [] = 0 ∧ ownB p (lastH p []) (againF p) = true := by
 have h1 : twoB p [] = false := by unfold twoB; rw [decide_eq_false (by simp; omega)]; rfl
 have h2 : lastH p [] = 0 := by unfold lastH; rw [h1]; rfl
 exact ⟨h1, h2, by rw [h2]; unfold ownB againF; simp⟩
theorem again_rds {p : Prog} {cuts : Int} : (picP p [] cuts 0 []).rds = seeV p cuts 0 := few_all _
theorem again_see {p : Prog} {cuts : Int} (h : seeE p cuts 0 = 0) {j i : Nat} (hj : (j : Int) < cuts) (hi : i < p.ros.length) : (⟨(j : Int), (i : Int), (cutL p j).getD i 0, (cutL p j).getD i 0⟩ : Rd) ∈ seeV p cuts 0 := by
 unfold seeV
 rw [h, if_pos rfl]
 unfold seeTo seeRow
 refine List.mem_flatMap.2 ⟨j, List.mem_range.2 (by omega), List.mem_map.2 ⟨i, List.mem_range.2 hi, ?_⟩⟩
 rw [Int.sub_zero, Int.add_zero]
theorem again_cut {p : Prog} {cuts : Int} (h : TrueIn p cuts 0 []) {first : Nat} {l : List Int} (hs : simpleL (fitsL (picP p [] cuts 0 []) (againF p) p.start) p.ros.length = some (first, l)) :
  progE ⟨movedL p.ros (first : Int), p.rub, p.start, p.throw, p.adv, l⟩ = 0 ∧ ∀ j : Nat, (j : Int) < cuts → cutL ⟨movedL p.ros (first : Int), p.rub, p.start, p.throw, p.adv, l⟩ (j : Int) = cutL p (j : Int) := by
 have hp := benchFacts (see_zero h.see)
 have hr0 := hp.ros0
 obtain ⟨o1, o2, o3⟩ := again_own hr0
 obtain ⟨k, k1, k2, hf, e1, -⟩ := simple_spec hs
 obtain ⟨b1, b2, b3⟩ := best_spec (by omega) (by omega) e1
 have hx : progE ⟨movedL p.ros (first : Int), p.rub, p.start, p.throw, p.adv, l⟩ = 0 := by
  have r1 : rosOk (movedL p.ros (first : Int)) = true := moved_ros hp.ros _
  have r2 : rubOk p.rub (movedL p.ros (first : Int)).length = true := by rw [movedL_length]; exact hp.rub
  have r3 : progB ⟨movedL p.ros (first : Int), p.rub, p.start, p.throw, p.adv, l⟩ = true := by
   refine progB_iff.2 ⟨hp.start, hp.throw, hp.adv, ⟨by show 1 ≤ l.length; omega, by show l.length ≤ 12; omega⟩, fun i hi => ?_⟩
   have := b2 l[i] (List.getElem_mem hi)
   show 0 ≤ l[i] ∧ l[i] < ((movedL p.ros (first : Int)).length : Int)
   rw [movedL_length]
   exact this
  unfold progE bothE
  show (if (if rosOk (movedL p.ros (first : Int)) = true then _ else _) ≠ 0 then _ else _) = (0 : Int)
  rw [r1]
  simp only [if_true]
  show (if (if rubOk p.rub (movedL p.ros (first : Int)).length = true then (0 : Int) else _) ≠ 0 then _ else if progB _ = true then (0 : Int) else 40) = 0
  rw [r2, r3]
  rfl
 refine ⟨hx, fun j hj => ?_⟩
 obtain ⟨x, hxe⟩ : ∃ x : Prog, x = ⟨movedL p.ros (first : Int), p.rub, p.start, p.throw, p.adv, l⟩ := ⟨_, rfl⟩
 rw [← hxe] at hx ⊢
 have hpx := benchFacts hx
 have xl : x.ros.length = p.ros.length := by rw [hxe]; exact movedL_length _ _
 have xs : x.shifts = l := by rw [hxe]
 apply List.ext_getElem
 ·rw [cutL_length, cutL_length, xl]
 intro i h1 h2
 have hi : i < p.ros.length := by rw [cutL_length] at h2; exact h2
 have hrd := again_see h.see hj hi
 have hcl : j < (fitsL (picP p [] cuts 0 []) (againF p) p.start).length := by
  have hok := true_ok [] h
  obtain ⟨q1, q2, q3, -⟩ := lastC_le (rds := (picP p [] cuts 0 []).rds) fun r hr => (hok.rd r hr).1
  have := q3 _ (by rw [again_rds]; exact hrd)
  dsimp only at this
  unfold fitsL
  simp only [List.length_map, List.length_range]
  omega
 have hm := b3 j hcl
 rw [List.getD_eq_getElem?_getD, List.getElem?_eq_getElem hcl] at hm
 have hm2 : memI (fitsL (picP p [] cuts 0 []) (againF p) p.start)[j] (phSeq l (first : Int) j % (p.ros.length : Int)) = true := hm
 rw [fitsL_get, memI_iff] at hm2
 unfold phasesAt at hm2
 obtain ⟨ph, hph, hpe⟩ := List.mem_map.1 hm2
 obtain ⟨-, hin⟩ := List.mem_filter.1 hph
 obtain ⟨-, hfit⟩ := startS_in.1 (inB_iff.1 hin)
 have hlift : (picP p [] cuts 0 []).lift (againF p).head.toNat = liftL p.ros p.rub := by
  have := (true_last p [] cuts 0 []).2
  rw [o2] at this
  exact this
 rw [hlift] at hfit
 have he := hfit _ (by rw [again_rds]; exact hrd) rfl
 unfold hAt at he
 dsimp only [againF] at he
 have hcp : (cutL p (j : Int)).getD i 0 = (cutL p (j : Int))[i] := by rw [List.getD_eq_getElem?_getD, List.getElem?_eq_getElem h2]; rfl
 rw [hcp] at he
 have hv : (cutL p (j : Int))[i] = p.start + ((j : Int) * p.adv + p.throw * atR (liftL p.ros p.rub) ((i : Int) - (ph : Int))) := by omega
 rw [hv, cutL_get]
 have e5 : x.start = p.start ∧ x.adv = p.adv ∧ x.throw = p.throw := by rw [hxe]; exact ⟨rfl, rfl, rfl⟩
 have e6 : atR (liftL x.ros x.rub) ((i : Int) - phaseI x (j : Int)) = atR (liftL p.ros p.rub) ((i : Int) - (ph : Int)) := by
  have e7 : liftL x.ros x.rub = liftL (movedL p.ros (first : Int)) p.rub := by rw [hxe]
  rw [e7, moved_lift hp.ros hp.rub]
  refine atR_mod _ _ _ ?_
  rw [liftL_length]
  have e8 := phSeq_phase x hpx j
  rw [xs, xl] at e8
  have e9 : phSeq l (first : Int) j = (first : Int) + phSeq l ((0 : Nat) : Int) j := by unfold phSeq; simp only [Int.natCast_zero]; omega
  rw [e9] at hpe
  rw [← e8, hpe]
  rw [Int.sub_emod, Int.sub_emod (i : Int) (phSeq l ((0 : Nat) : Int) j % (p.ros.length : Int)), Int.emod_emod]
  rw [← Int.sub_emod (i : Int) (phSeq l ((0 : Nat) : Int) j), ← Int.sub_emod, Int.sub_emod (i : Int) (((first : Int) + phSeq l ((0 : Nat) : Int) j) % (p.ros.length : Int)), Int.emod_emod, ← Int.sub_emod]
  congr 1
  omega
 rw [e5.1, e5.2.1, e5.2.2, e6]
 omega
theorem again_seeV {p x : Prog} {cuts : Int} (h : seeE p cuts 0 = 0) (hx : progE x = 0) (hl : x.ros.length = p.ros.length) (hc : ∀ j : Nat, (j : Int) < cuts → cutL x (j : Int) = cutL p (j : Int)) : seeE x cuts 0 = 0 ∧ seeV x cuts 0 = seeV p cuts 0 := by
 have hp := see_zero h
 have e : seeE x cuts 0 = 0 := by
  have h' := h
  unfold seeE at h' ⊢
  rw [hp] at h'
  rw [hx, hl]
  exact h'
 refine ⟨e, ?_⟩
 unfold seeV
 rw [e, h, if_pos rfl, if_pos rfl]
 obtain ⟨h1, -⟩ := see_mem h
 unfold seeTo
 rw [List.flatMap_def, List.flatMap_def]
 congr 1
 refine List.map_congr_left fun j hj => ?_
 have := List.mem_range.1 hj
 unfold seeRow
 rw [hl, hc j (by omega)]
theorem fitsL_getD (q : Pic) (f : Fnd) (s : Int) (j : Nat) (h : j < (fitsL q f s).length) : (fitsL q f s).getD j [] = phasesAt q.rds (q.lift f.head.toNat) f.throw f.adv s (j : Int) := by
 rw [List.getD_eq_getElem?_getD, List.getElem?_eq_getElem h]
 exact fitsL_get q f s j h
def againX (p : Prog) (first : Nat) (l : List Int) : Prog := ⟨movedL p.ros (first : Int), p.rub, p.start, p.throw, p.adv, l⟩
theorem again_simple {p : Prog} {cuts : Int} (h : TrueIn p cuts 0 []) : ∃ first l, simpE (picP p [] cuts 0 []) (againF p) p.start = 0 ∧ simpP (picP p [] cuts 0 []) (againF p) p.start = againX p first l ∧ progE (againX p first l) = 0 ∧ seeE (againX p first l) cuts 0 = 0 ∧ seeV (againX p first l) cuts 0 = seeV p cuts 0 ∧ TrueIn (againX p first l) cuts 0 [] ∧
  simpE (picP (againX p first l) [] cuts 0 []) (againF p) p.start = 0 ∧ simpP (picP (againX p first l) [] cuts 0 []) (againF p) p.start = againX p first l := by
 have hp := benchFacts (see_zero h.see)
 obtain ⟨o1, o2, o3⟩ := again_own hp.ros0
 obtain ⟨f0, fv⟩ := true_fits (other := []) h o3
 have hst := true_steps [] h
 obtain ⟨s0, -⟩ := true_simple (other := []) h o3
 have hsim : ∃ first l, simpleL (fitsL (picP p [] cuts 0 []) (againF p) p.start) p.ros.length = some (first, l) := by
  unfold simpE at s0
  rw [f0, if_pos rfl, fv, hst] at s0
  cases e : simpleL (fitsL (picP p [] cuts 0 []) (againF p) p.start) p.ros.length with
  | none => rw [e] at s0; simp at s0
  | some x => exact ⟨x.1, x.2, rfl⟩
 obtain ⟨first, l, hs⟩ := hsim
 obtain ⟨c1, c2⟩ := again_cut h hs
 have hgd : (picP p [] cuts 0 []).hs.getD (againF p).head.toNat default = ⟨p.ros, p.rub⟩ := by unfold picP; rw [o1]; rfl
 have hP : simpP (picP p [] cuts 0 []) (againF p) p.start = againX p first l := by
  unfold simpP
  rw [f0, if_pos rfl, fv, hst, hs, hgd]
  rfl
 have hxl : (againX p first l).ros.length = p.ros.length := movedL_length _ _
 obtain ⟨v0, v1⟩ := again_seeV (x := againX p first l) h.see c1 hxl c2
 have hT : TrueIn (againX p first l) cuts 0 [] := ⟨v0, h.adv, by rw [v1]; exact h.few, fun b hb => by cases hb⟩
 obtain ⟨x1, x2, x3⟩ := again_own (p := againX p first l) (by rw [hxl]; exact hp.ros0)
 have x3' : ownB (againX p first l) (lastH (againX p first l) []) (againF p) = true := x3
 obtain ⟨g0, gv⟩ := true_fits (other := []) hT x3'
 obtain ⟨t0, -⟩ := true_simple (other := []) hT x3'
 have hstx := true_steps [] hT
 have hstart : (againX p first l).start = p.start := rfl
 rw [hstart] at g0 gv t0
 have hk := simple_spec hs
 obtain ⟨k0, kk1, kk2, hf, -⟩ := hk
 have hr0 := hp.ros0
 have hlen : (fitsL (picP (againX p first l) [] cuts 0 []) (againF p) p.start).length = (fitsL (picP p [] cuts 0 []) (againF p) p.start).length := by
  unfold fitsL
  simp only [List.length_map, List.length_range]
  rw [again_rds, again_rds, v1]
 have hmm : ∀ (j : Nat) (a : Int), memI ((fitsL (picP (againX p first l) [] cuts 0 []) (againF p) p.start).getD j []) (a % (p.ros.length : Int)) = memI ((fitsL (picP p [] cuts 0 []) (againF p) p.start).getD j []) ((a + (first : Int)) % (p.ros.length : Int)) := fun j a => by
  by_cases hj : j < (fitsL (picP p [] cuts 0 []) (againF p) p.start).length
  ·have hj' : j < (fitsL (picP (againX p first l) [] cuts 0 []) (againF p) p.start).length := by rw [hlen]; exact hj
   rw [fitsL_getD _ _ _ _ hj, fitsL_getD _ _ _ _ hj', Bool.eq_iff_iff, memI_iff, memI_iff]
   have hL1 : (picP p [] cuts 0 []).lift (againF p).head.toNat = liftL p.ros p.rub := by
    have := (true_last p [] cuts 0 []).2
    rw [o2] at this
    exact this
   have hL2 : (picP (againX p first l) [] cuts 0 []).lift (againF p).head.toNat = liftL (movedL p.ros (first : Int)) p.rub := by
    have := (true_last (againX p first l) [] cuts 0 []).2
    rw [x2] at this
    exact this
   rw [hL1, hL2, again_rds, again_rds, v1]
   have hz : (0 : Int) < (p.ros.length : Int) := by omega
   have key : ∀ (lf : List Int), lf.length = p.ros.length → ∀ b : Int, (b % (p.ros.length : Int) ∈ phasesAt (seeV p cuts 0) lf (againF p).throw (againF p).adv p.start (j : Int) ↔ ∀ r ∈ seeV p cuts 0, r.cut = (j : Int) → r.lo ≤ p.start + ((j : Int) * p.adv + p.throw * atR lf (r.step - b)) ∧ p.start + ((j : Int) * p.adv + p.throw * atR lf (r.step - b)) ≤ r.hi) := fun lf hlf b => by
    have g1 := Int.emod_nonneg b (by omega : (p.ros.length : Int) ≠ 0)
    have g2 := Int.emod_lt_of_pos b hz
    obtain ⟨m, hm⟩ : ∃ m : Nat, b % (p.ros.length : Int) = (m : Int) := ⟨(b % (p.ros.length : Int)).toNat, by omega⟩
    have hat : ∀ r : Rd, atR lf (r.step - b) = hAt lf r m := fun r => by
     unfold hAt
     refine atR_mod _ _ _ ?_
     rw [hlf, ← hm, Int.sub_emod_emod]
    simp only [hat]
    rw [hm]
    unfold phasesAt
    constructor
    ·intro hin
     obtain ⟨ph, hph, hpe⟩ := List.mem_map.1 hin
     obtain ⟨-, hi⟩ := List.mem_filter.1 hph
     have : ph = m := by omega
     subst this
     exact (startS_in.1 (inB_iff.1 hi)).2
    ·intro hr
     exact List.mem_map.2 ⟨m, List.mem_filter.2 ⟨List.mem_range.2 (by omega), inB_iff.2 (startS_in.2 ⟨hp.start, hr⟩)⟩, rfl⟩
   rw [key _ (by rw [liftL_length, movedL_length]) a, key _ (liftL_length _ _) (a + (first : Int))]
   refine forall_congr' fun r => forall_congr' fun _ => ?_
   rw [moved_lift hp.ros hp.rub, show r.step - a - (first : Int) = r.step - (a + (first : Int)) by omega]
  ·rw [List.getD_eq_getElem?_getD, List.getD_eq_getElem?_getD, List.getElem?_eq_none (by omega), List.getElem?_eq_none (by omega)]
   rfl
 have hs2 := shift_simple hlen hmm hs
 refine ⟨first, l, s0, hP, c1, v0, v1, hT, t0, ?_⟩
 unfold simpP
 have hgx : (picP (againX p first l) [] cuts 0 []).hs.getD (againF p).head.toNat default = ⟨movedL p.ros (first : Int), p.rub⟩ := by unfold picP; rw [x1]; rfl
 rw [g0, if_pos rfl, gv, hstx, hxl, hs2, hgx]
 show (⟨movedL (movedL p.ros (first : Int)) ((0 : Nat) : Int), p.rub, p.start, p.throw, p.adv, l⟩ : Prog) = againX p first l
 have hz : movedL (movedL p.ros (first : Int)) ((0 : Nat) : Int) = movedL p.ros (first : Int) := (moved_iff _ _).2 (Shifts.zero _)
 rw [hz]
 rfl
end Go.Proofs.YtphdalgaemefoaaGreat
