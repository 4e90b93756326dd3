/- What is found contains the truth: plain laws of ReadTrue. -/
import Derived.Test.YtphdalgaemefoaaGreatRdPict
import Derived.Test.YtphdalgaemefoaaGreatSimpLaw
import Derived.Test.YtphdalgaemefoaaGreatFndLaw
import Derived.Test.YtphdalgaemefoaaGreatL9Conf
namespace Go.Proofs.YtphdalgaemefoaaGreat
set_option maxRecDepth 100000
set_option linter.unusedVariables false
theorem few_mem {sm : List Nat} {L : List Rd} {k : Nat} {r : Rd} (hk : k ≤ L.length) (h8 : ∀ b ∈ sm, b ≤ 255) (h : r ∈ fewTo sm L k) : ∃ r0 ∈ L, Wider r0 r ∧ r0.lo - 3 ≤ r.lo ∧ r.hi ≤ r0.hi + 3 := by
 unfold fewTo at h
 simp only [List.mem_flatMap, List.mem_range] at h
 obtain ⟨i, hi, hr⟩ := h
 split at hr
 ·rw [List.mem_singleton] at hr
  subst hr
  have hil : i < L.length := by omega
  have hg : L.getD i default = L[i] := by rw [List.getD_eq_getElem?_getD, List.getElem?_eq_getElem hil]; rfl
  have hb : ∀ j, sm.getD j 0 ≤ 255 := fun j => by
   rw [List.getD_eq_getElem?_getD]
   cases e : sm[j]? with
   | none => simp
   | some b => exact h8 b (List.mem_of_getElem? e)
  refine ⟨L[i], List.getElem_mem hil, ?_⟩
  rw [hg]
  unfold widI Wider
  split
  ·exact ⟨⟨rfl, rfl, Int.le_refl _, Int.le_refl _⟩, by omega, by omega⟩
  ·have h1 := hb (i % sm.length)
   have h2 := hb ((i + 1) % sm.length)
   dsimp only
   refine ⟨⟨rfl, rfl, by omega, by omega⟩, by omega, by omega⟩
 ·cases hr
structure TrueIn (p : Prog) (cuts noise : Int) (sm : List Nat) : Prop where
 see : seeE p cuts noise = 0
 adv : 0 ≤ p.adv
 few : 0 < (fewTo sm (seeV p cuts noise) (seeV p cuts noise).length).length
 by8 : ∀ b ∈ sm, b ≤ 255
theorem trueIn {p : Prog} {cuts noise : Int} {sm : List Nat} (h : pictB p cuts noise sm = true) (h8 : ∀ b ∈ sm, b ≤ 255) : TrueIn p cuts noise sm := by
 unfold pictB at h
 simp only [Bool.and_eq_true, decide_eq_true_eq] at h
 exact ⟨h.1, h.2.1, h.2.2, h8⟩
theorem true_rd {p : Prog} {cuts noise : Int} {sm : List Nat} {other : List Int} (h : TrueIn p cuts noise sm) {r : Rd} (hr : r ∈ (picP p other cuts noise sm).rds) : ∃ j i : Nat, (j : Int) < cuts ∧ cuts ≤ 12 ∧ i < p.ros.length ∧ r.cut = (j : Int) ∧ r.step = (i : Int) ∧ r.lo ≤ (cutL p j).getD i 0 ∧ (cutL p j).getD i 0 ≤ r.hi ∧ -300000 ≤ r.lo ∧ r.hi ≤ 300000 := by
 obtain ⟨r0, h0, ⟨w1, w2, w3, w4⟩, w5, w6⟩ := few_mem (Nat.le_refl _) h.by8 hr
 obtain ⟨h1, h2, h3⟩ := see_mem h.see
 obtain ⟨j, i, hj, hi, rfl⟩ := h3 r0 h0
 have hb := see_bd h.see _ h0
 dsimp only at w1 w2 w3 w4 w5 w6 hb
 exact ⟨j, i, hj, h1.2, hi, w1, w2, by omega, by omega, by omega, by omega⟩
theorem true_ok {p : Prog} {cuts noise : Int} {sm : List Nat} (other : List Int) (h : TrueIn p cuts noise sm) : PicOk (picP p other cuts noise sm) := by
 have hp := benchFacts (see_zero h.see)
 have hth := hp.throw
 have had := hp.adv
 have h0 := h.adv
 have hst : (picP p other cuts noise sm).steps = p.ros.length ∧ (1 ≤ (picP p other cuts noise sm).hs.length ∧ (picP p other cuts noise sm).hs.length ≤ 4) ∧ ∀ d ∈ (picP p other cuts noise sm).hs, d.ros.length = p.ros.length ∧ rosOk d.ros = true ∧ rubOk d.rub p.ros.length = true := by
  unfold Pic.steps picP
  cases ht : twoB p other with
  | true =>
   unfold twoB at ht
   simp only [Bool.and_eq_true, decide_eq_true_eq] at ht
   refine ⟨ht.1, by simp, fun d hd => ?_⟩
   simp at hd
   rcases hd with rfl | rfl
   ·exact ⟨ht.1, ht.2, hp.rub⟩
   ·exact ⟨rfl, hp.ros, hp.rub⟩
  | false =>
   refine ⟨rfl, by simp, fun d hd => ?_⟩
   simp at hd
   subst hd
   exact ⟨rfl, hp.ros, hp.rub⟩
 obtain ⟨hst, h1, h2⟩ := hst
 refine ⟨h1, ⟨h.few, Nat.le_trans (fewTo_le _ _ _) (seeV_length h.see)⟩, fun d hd => by rw [hst]; exact h2 d hd, ?_, ?_, ?_, ?_, ?_, ?_, ?_, fun r hr => ?_⟩
 ·show 1 ≤ min p.throw 15; omega
 ·show min p.throw 15 ≤ min p.throw 15 + 1; omega
 ·show min p.throw 15 + 1 ≤ 16; omega
 ·show -1000 ≤ p.adv; omega
 ·show p.adv ≤ min (p.adv + 2) 1000; omega
 ·show min (p.adv + 2) 1000 ≤ 1000; omega
 ·show min (p.adv + 2) 1000 - p.adv ≤ 40; omega
 ·obtain ⟨j, i, q1, q2, q3, q4, q5, q6, q7, q8, q9⟩ := true_rd h hr
  rw [hst]
  omega
def lastH (p : Prog) (other : List Int) : Nat := if twoB p other then 1 else 0
theorem true_last (p : Prog) (other : List Int) (cuts noise : Int) (sm : List Nat) : (picP p other cuts noise sm).hs.length = lastH p other + 1 ∧ (picP p other cuts noise sm).lift (lastH p other) = liftL p.ros p.rub := by
 unfold lastH Pic.lift picP
 cases twoB p other <;> exact ⟨rfl, rfl⟩
theorem true_steps {p : Prog} {cuts noise : Int} {sm : List Nat} (other : List Int) (h : TrueIn p cuts noise sm) : (picP p other cuts noise sm).steps = p.ros.length := by
 unfold Pic.steps picP
 cases ht : twoB p other with
 | true => unfold twoB at ht; simp only [Bool.and_eq_true, decide_eq_true_eq] at ht; exact ht.1
 | false => rfl
theorem true_at {p : Prog} {cuts noise : Int} {sm : List Nat} (other : List Int) (h : TrueIn p cuts noise sm) (c : Nat) : ∃ ph : Nat, phaseI p (c : Int) = (ph : Int) ∧ ph < (liftL p.ros p.rub).length ∧ FitAt (picP p other cuts noise sm).rds (liftL p.ros p.rub) p.throw p.adv (c : Int) ph p.start := by
 have hp := benchFacts (see_zero h.see)
 obtain ⟨b1, b2⟩ := phaseI_bound hp (c : Int)
 obtain ⟨ph, hph⟩ : ∃ ph : Nat, phaseI p (c : Int) = (ph : Int) := ⟨(phaseI p (c : Int)).toNat, by omega⟩
 refine ⟨ph, hph, by rw [liftL_length]; omega, fun r hr e => ?_⟩
 obtain ⟨j, i, q1, q2, q3, q4, q5, q6, q7, -⟩ := true_rd h hr
 have hjc : j = c := by omega
 subst hjc
 have hl : i < (cutL p j).length := by rw [cutL_length]; exact q3
 rw [List.getD_eq_getElem?_getD, List.getElem?_eq_getElem hl] at q6 q7
 have hg := cutL_get p (j : Int) i hl
 have hg2 : ((some (cutL p (j : Int))[i]).getD 0) = p.start + (j : Int) * p.adv + p.throw * atR (liftL p.ros p.rub) ((i : Int) - phaseI p j) := hg
 rw [hg2, hph] at q6 q7
 unfold hAt
 rw [q5]
 omega
theorem true_fit {p : Prog} {cuts noise : Int} {sm : List Nat} (other : List Int) (h : TrueIn p cuts noise sm) : AllFit (picP p other cuts noise sm).rds (liftL p.ros p.rub) p.throw p.adv p.start := fun c _ => by
 obtain ⟨ph, -, h1, h2⟩ := true_at other h c
 exact ⟨ph, h1, h2⟩
def ownB (p : Prog) (hd : Int) (f : Fnd) : Bool := decide (f.head = hd) && (decide (f.throw = p.throw) && (decide (f.adv = p.adv) && (decide (f.lo ≤ p.start) && decide (p.start ≤ f.hi))))
theorem true_own {p : Prog} {cuts noise : Int} {sm : List Nat} (other : List Int) (h : TrueIn p cuts noise sm) : ∃ f ∈ foundL (picP p other cuts noise sm), ownB p (lastH p other) f = true := by
 have hp := benchFacts (see_zero h.see)
 obtain ⟨e1, e2⟩ := true_last p other cuts noise sm
 have hth := hp.throw
 have had := hp.adv
 have hs := hp.start
 obtain ⟨s, m1, m2, m3⟩ := fitL_in.2 ⟨hs, true_fit other h⟩
 refine ⟨⟨lastH p other, p.throw, p.adv, s.1, s.2⟩, mem_found.2 ⟨lastH p other, p.throw, p.adv, s, by omega, ⟨?_, ?_⟩, ⟨?_, ?_⟩, by rw [e2]; exact m1, rfl⟩, by unfold ownB; simp [m2, m3]⟩
 ·show min p.throw 15 ≤ p.throw; omega
 ·show p.throw ≤ min p.throw 15 + 1; omega
 ·show p.adv ≤ p.adv; omega
 ·show p.adv ≤ min (p.adv + 2) 1000; omega
theorem true_find {p : Prog} {cuts noise : Int} {sm : List Nat} (other : List Int) (h : TrueIn p cuts noise sm) : findE (picP p other cuts noise sm) = 4 ∨ (findE (picP p other cuts noise sm) = 0 ∧ findL (picP p other cuts noise sm) = foundL (picP p other cuts noise sm) ∧ (foundL (picP p other cuts noise sm)).length ≤ 400) := by
 obtain ⟨f, hf, -⟩ := true_own other h
 rcases find_cases (picB_iff.2 (true_ok other h)) with h4 | ⟨⟨h0, -⟩ | ⟨-, h0⟩, h5, h6⟩
 ·exact .inl h4
 ·exact .inr ⟨h0, h5, h6⟩
 ·rw [List.eq_nil_of_length_eq_zero h0] at hf
  cases hf
theorem true_conf {p : Prog} {cuts noise : Int} {sm : List Nat} (other : List Int) (h : TrueIn p cuts noise sm) : confE (picP p other cuts noise sm) = 6 := by
 refine (conf_none (picB_iff.2 (true_ok other h)) fun h6 => ?_).1
 rcases true_find other h with h4 | ⟨h0, -⟩
 ·rw [h4] at h6; cases h6
 ·rw [h0] at h6; cases h6
theorem true_lift {p : Prog} {cuts noise : Int} {sm : List Nat} {other : List Int} {f : Fnd} (ho : ownB p (lastH p other) f = true) : f.throw = p.throw ∧ f.adv = p.adv ∧ f.head = (lastH p other : Int) ∧ f.lo ≤ p.start ∧ p.start ≤ f.hi ∧ (picP p other cuts noise sm).lift f.head.toNat = liftL p.ros p.rub := by
 unfold ownB at ho
 simp only [Bool.and_eq_true, decide_eq_true_eq] at ho
 obtain ⟨h1, h2, h3, h4, h5⟩ := ho
 exact ⟨h2, h3, h1, h4, h5, by rw [h1, Int.toNat_natCast]; exact (true_last p other cuts noise sm).2⟩
theorem true_phase {p : Prog} {cuts noise : Int} {sm : List Nat} {other : List Int} {f : Fnd} (h : TrueIn p cuts noise sm) (ho : ownB p (lastH p other) f = true) (c : Nat) : phaseI p (c : Int) ∈ phasesAt (picP p other cuts noise sm).rds ((picP p other cuts noise sm).lift f.head.toNat) f.throw f.adv p.start (c : Int) := by
 obtain ⟨e1, e2, e3, e4, e5, e6⟩ := true_lift (cuts := cuts) (noise := noise) (sm := sm) ho
 have hs := (benchFacts (see_zero h.see)).start
 obtain ⟨ph, a1, a2, a3⟩ := true_at other h c
 unfold phasesAt
 rw [e1, e2, e6, a1]
 exact List.mem_map.2 ⟨ph, List.mem_filter.2 ⟨List.mem_range.2 a2, inB_iff.2 (startS_in.2 ⟨hs, a3⟩)⟩, rfl⟩
theorem true_fits {p : Prog} {cuts noise : Int} {sm : List Nat} {other : List Int} {f : Fnd} (h : TrueIn p cuts noise sm) (ho : ownB p (lastH p other) f = true) : fitsE (picP p other cuts noise sm) f p.start = 0 ∧ fitsV (picP p other cuts noise sm) f p.start = fitsL (picP p other cuts noise sm) f p.start := by
 have hp := benchFacts (see_zero h.see)
 have hth := hp.throw
 have had := hp.adv
 have hs := hp.start
 obtain ⟨e1, e2, e3, e4, e5, e6⟩ := true_lift (cuts := cuts) (noise := noise) (sm := sm) ho
 have hl := (true_last p other cuts noise sm).1
 have harg : argB (picP p other cuts noise sm) f p.start = true := by
  unfold argB
  simp only [Bool.and_eq_true, decide_eq_true_eq]
  have a1 : (picP p other cuts noise sm).tl = min p.throw 15 := rfl
  have a2 : (picP p other cuts noise sm).th = min p.throw 15 + 1 := rfl
  have a3 : (picP p other cuts noise sm).al = p.adv := rfl
  have a4 : (picP p other cuts noise sm).ah = min (p.adv + 2) 1000 := rfl
  omega
 have hany : (fitsL (picP p other cuts noise sm) f p.start).any (fun l => l.isEmpty) = false := by
  rw [List.any_eq_false]
  intro l hl
  unfold fitsL at hl
  obtain ⟨c, -, rfl⟩ := List.mem_map.1 hl
  have := true_phase h ho c
  intro he
  rw [List.isEmpty_iff] at he
  rw [he] at this
  cases this
 have e0 : fitsE (picP p other cuts noise sm) f p.start = 0 := by
  unfold fitsE
  rw [picB_iff.2 (true_ok other h), if_pos rfl, harg, if_pos rfl, hany, if_neg (by decide)]
 exact ⟨e0, by unfold fitsV; rw [e0, if_pos rfl]⟩
theorem memI_iff {l : List Int} {x : Int} : memI l x = true ↔ x ∈ l := by
 unfold memI
 rw [List.any_eq_true]
 constructor
 ·rintro ⟨y, hy, e⟩
  rw [← of_decide_eq_true e]; exact hy
 ·intro h
  exact ⟨x, h, decide_eq_true rfl⟩
theorem fitsL_get (q : Pic) (f : Fnd) (s : Int) (j : Nat) (h : j < (fitsL q f s).length) : (fitsL q f s)[j] = phasesAt q.rds (q.lift f.head.toNat) f.throw f.adv s (j : Int) := by
 have h2 : (fitsL q f s)[j]? = some (phasesAt q.rds (q.lift f.head.toNat) f.throw f.adv s (j : Int)) := by
  have hl : j < (lastC q.rds).toNat + 1 := by unfold fitsL at h; simpa using h
  unfold fitsL
  rw [List.getElem?_map, List.getElem?_range hl]
  rfl
 rw [List.getElem?_eq_getElem h] at h2
 exact Option.some.inj h2
theorem phSeq_phase (p : Prog) (hp : BenchFacts p) (j : Nat) : phSeq p.shifts ((0 : Nat) : Int) j % (p.ros.length : Int) = phaseI p (j : Int) := by
 unfold phSeq phaseI sumTo
 have h1 : ((j : Int) / (p.shifts.length : Int)) = ((j / p.shifts.length : Nat) : Int) := by simp
 have h2 : ((j : Int) % (p.shifts.length : Int)).toNat = j % p.shifts.length := by
  rw [← Int.natCast_emod, Int.toNat_natCast]
 rw [h1, h2, List.take_length]
 congr 1
 simp
theorem true_simple {p : Prog} {cuts noise : Int} {sm : List Nat} {other : List Int} {f : Fnd} (h : TrueIn p cuts noise sm) (ho : ownB p (lastH p other) f = true) : simpE (picP p other cuts noise sm) f p.start = 0 ∧ (simpP (picP p other cuts noise sm) f p.start).shifts.length ≤ p.shifts.length := by
 have hp := benchFacts (see_zero h.see)
 obtain ⟨e0, ev⟩ := true_fits (other := other) h ho
 have hst := true_steps other h
 have hr := hp.ros0
 have hseq : SeqFits (fitsL (picP p other cuts noise sm) f p.start) p.ros.length ((0 : Nat) : Int) p.shifts := fun j hj => by
  rw [phSeq_phase p hp, List.getD_eq_getElem?_getD, List.getElem?_eq_getElem hj]
  show memI (fitsL (picP p other cuts noise sm) f p.start)[j] _ = true
  rw [fitsL_get, memI_iff]
  exact true_phase h ho j
 obtain ⟨first, l, h1, h2, h3, h4, h5, h6, h7, -⟩ := simple_le (by omega) hp.sh0 hp.sh1 hseq
 unfold simpE simpP
 rw [e0, if_pos rfl, if_pos rfl, ev, hst, h1]
 exact ⟨by rw [if_neg (by simp)], h7⟩
end Go.Proofs.YtphdalgaemefoaaGreat
