/- What is found, one by one; fewer and wider readings find no less: plain laws. -/
import Derived.Test.YtphdalgaemefoaaGreatRdSome
namespace Go.Proofs.YtphdalgaemefoaaGreat
set_option maxRecDepth 100000
set_option linter.unusedVariables false
theorem mem_found {p : Pic} {f : Fnd} : f ∈ foundL p ↔ ∃ (h : Nat) (t a : Int) (s : Spn), h < p.hs.length ∧ (p.tl ≤ t ∧ t ≤ p.th) ∧ (p.al ≤ a ∧ a ≤ p.ah) ∧ s ∈ fitL p.rds (p.lift h) t a ∧ f = ⟨h, t, a, s.1, s.2⟩ := by
 unfold foundL foundA
 simp only [List.mem_flatMap, List.mem_map, List.mem_range, mem_upTo]
 constructor
 ·rintro ⟨h, hh, t, ht, a, ha, s, hs, rfl⟩
  exact ⟨h, t, a, s, hh, ht, ha, hs, rfl⟩
 ·rintro ⟨h, t, a, s, hh, ht, ha, hs, rfl⟩
  exact ⟨h, hh, t, ht, a, ha, s, hs, rfl⟩
theorem found_in {rds : List Rd} {lift : List Int} {t a x : Int} {s : Spn} (hs : s ∈ fitL rds lift t a) (h1 : s.1 ≤ x) (h2 : x ≤ s.2) : (0 ≤ x ∧ x ≤ 10000) ∧ AllFit rds lift t a x := fitL_in.1 ⟨s, hs, h1, h2⟩
theorem found_le {rds : List Rd} {lift : List Int} {t a : Int} {s : Spn} (hs : s ∈ fitL rds lift t a) : s.1 ≤ s.2 := (fitL_nm rds lift t a).1 s hs
theorem found_iff {p : Pic} {h : Nat} {t a x : Int} (hh : h < p.hs.length) (ht : p.tl ≤ t ∧ t ≤ p.th) (ha : p.al ≤ a ∧ a ≤ p.ah) (hx : 0 ≤ x ∧ x ≤ 10000) :
  (∃ lo hi : Int, (⟨h, t, a, lo, hi⟩ : Fnd) ∈ foundL p ∧ lo ≤ x ∧ x ≤ hi) ↔ AllFit p.rds (p.lift h) t a x := by
 constructor
 ·rintro ⟨lo, hi, hm, h1, h2⟩
  obtain ⟨h', t', a', s, -, -, -, hs, e⟩ := mem_found.1 hm
  injection e with e1 e2 e3 e4 e5
  subst e2 e3 e4 e5
  have : h = h' := by omega
  subst this
  exact (found_in hs h1 h2).2
 ·intro hf
  obtain ⟨s, hs, h1, h2⟩ := fitL_in.2 ⟨hx, hf⟩
  exact ⟨s.1, s.2, mem_found.2 ⟨h, t, a, s, hh, ht, ha, hs, rfl⟩, h1, h2⟩
theorem nm_span {L : List Spn} (h : Nm L) (a : Int) : ∀ (k : Nat), (∀ x, a ≤ x → x ≤ a + (k : Int) → inL L x) → ∃ s ∈ L, s.1 ≤ a ∧ a + (k : Int) ≤ s.2
 | 0, hx => by
  obtain ⟨s, hs, h1, h2⟩ := hx a (by omega) (by omega)
  exact ⟨s, hs, h1, by simpa using h2⟩
 | k + 1, hx => by
  obtain ⟨s, hs, h1, h2⟩ := nm_span h a k fun x q1 q2 => hx x q1 (by omega)
  by_cases h3 : a + ((k + 1 : Nat) : Int) ≤ s.2
  ·exact ⟨s, hs, h1, h3⟩
  ·obtain ⟨t, ht, h4, h5⟩ := hx (a + ((k + 1 : Nat) : Int)) (by omega) (by omega)
   obtain ⟨i, hi, rfl⟩ := List.getElem_of_mem hs
   obtain ⟨j, hj, rfl⟩ := List.getElem_of_mem ht
   have hp := List.pairwise_iff_getElem.1 h.2
   rcases Nat.lt_trichotomy i j with hij | hij | hij
   ·have := hp i j hi hj hij; omega
   ·subst hij; omega
   ·have := hp j i hj hi hij; omega
def Wider (r r' : Rd) : Prop := r'.cut = r.cut ∧ r'.step = r.step ∧ r'.lo ≤ r.lo ∧ r.hi ≤ r'.hi
theorem allFit_wider {rds rds' : List Rd} {lift : List Int} {t a x : Int} (h : ∀ r' ∈ rds', ∃ r ∈ rds, Wider r r') (hf : AllFit rds lift t a x) : AllFit rds' lift t a x := fun cut hc => by
 obtain ⟨ph, h1, h2⟩ := hf cut hc
 refine ⟨ph, h1, fun r' hr' e => ?_⟩
 obtain ⟨r, hr, w1, w2, w3, w4⟩ := h r' hr'
 have hh : hAt lift r' ph = hAt lift r ph := by unfold hAt; rw [w2]
 have := h2 r hr (by rw [← w1]; exact e)
 rw [hh]
 omega
theorem found_more {p : Pic} {rds : List Rd} (h : ∀ r' ∈ rds, ∃ r ∈ p.rds, Wider r r') {x : Fnd} (hx : x ∈ foundL p) : ∃ m ∈ foundL (p.with rds), m.head = x.head ∧ m.throw = x.throw ∧ m.adv = x.adv ∧ m.lo ≤ x.lo ∧ x.hi ≤ m.hi := by
 obtain ⟨hd, t, a, s, h1, h2, h3, h4, rfl⟩ := mem_found.1 hx
 have hle := found_le h4
 obtain ⟨s', m1, m2, m3⟩ := nm_span (fitL_nm rds (p.lift hd) t a) s.1 (s.2 - s.1).toNat fun y y1 y2 => by
  have := found_in h4 (x := y) y1 (by omega)
  exact fitL_in.2 ⟨this.1, allFit_wider h this.2⟩
 exact ⟨⟨hd, t, a, s'.1, s'.2⟩, mem_found.2 ⟨hd, t, a, s', h1, h2, h3, m1, rfl⟩, rfl, rfl, rfl, m2, by show s.2 ≤ s'.2; omega⟩
def widR (lo hi : Int) (r : Rd) : Rd := ⟨r.cut, r.step, max (r.lo - lo) (-300000), min (r.hi + hi) 300000⟩
def fewR (rds : List Rd) (i k : Nat) (lo hi : Int) : List Rd := (if 1 < rds.length then rds.eraseIdx i else rds).modify k (widR lo hi)
theorem fewR_length (rds : List Rd) (i k : Nat) (lo hi : Int) : (fewR rds i k lo hi).length = (if 1 < rds.length then rds.eraseIdx i else rds).length := by unfold fewR; simp
theorem fewR_mem {p : Pic} (h : PicOk p) {i k : Nat} {lo hi : Int} (h0 : 0 ≤ lo) (h1 : 0 ≤ hi) : ∀ r' ∈ fewR p.rds i k lo hi, ∃ r ∈ p.rds, Wider r r' ∧ ((0 ≤ r'.cut ∧ r'.cut ≤ 11) ∧ (0 ≤ r'.step ∧ r'.step ≤ (p.steps : Int) - 1) ∧ -300000 ≤ r'.lo ∧ r'.lo ≤ r'.hi ∧ r'.hi ≤ 300000) := by
 intro r' hr'
 have hsub : ∀ r ∈ (if 1 < p.rds.length then p.rds.eraseIdx i else p.rds), r ∈ p.rds := fun r hr => by
  split at hr
  ·exact List.mem_of_mem_eraseIdx hr
  ·exact hr
 unfold fewR at hr'
 obtain ⟨j, hj, rfl⟩ := List.getElem_of_mem hr'
 rw [List.length_modify] at hj
 have hm := hsub _ (List.getElem_mem hj)
 obtain ⟨b1, b2, b3, b4, b5⟩ := h.rd _ hm
 rw [List.getElem_modify]
 refine ⟨_, hm, ?_⟩
 by_cases e : k = j
 ·rw [if_pos e]
  refine ⟨⟨rfl, rfl, ?_, ?_⟩, b1, b2, ?_, ?_, ?_⟩ <;> dsimp only [widR] <;> omega
 ·rw [if_neg e]
  exact ⟨⟨rfl, rfl, Int.le_refl _, Int.le_refl _⟩, b1, b2, b3, b4, b5⟩
theorem few_ok {p : Pic} (h : PicOk p) {i k : Nat} {lo hi : Int} (h0 : 0 ≤ lo) (h1 : 0 ≤ hi) (hl : i < p.rds.length) : PicOk (p.with (fewR p.rds i k lo hi)) := by
 have hr : 1 ≤ (fewR p.rds i k lo hi).length ∧ (fewR p.rds i k lo hi).length ≤ 60 := by
  have := h.reads
  rw [fewR_length]
  split
  ·rw [List.length_eraseIdx, if_pos (by omega)]; omega
  ·exact this
 have hd : ∀ r' ∈ fewR p.rds i k lo hi, (0 ≤ r'.cut ∧ r'.cut ≤ 11) ∧ (0 ≤ r'.step ∧ r'.step ≤ (p.steps : Int) - 1) ∧ -300000 ≤ r'.lo ∧ r'.lo ≤ r'.hi ∧ r'.hi ≤ 300000 := fun r' hr' => by
  obtain ⟨r, -, -, h2⟩ := fewR_mem h h0 h1 r' hr'
  exact h2
 exact ⟨h.heads, hr, h.head, h.tl, h.tle, h.th, h.al, h.ale, h.ah, h.span, hd⟩
theorem found_few {p : Pic} (h : PicOk p) {i k : Nat} {lo hi : Int} (h0 : 0 ≤ lo) (h1 : 0 ≤ hi) {x : Fnd} (hx : x ∈ foundL p) : ∃ m ∈ foundL (p.with (fewR p.rds i k lo hi)), m.head = x.head ∧ m.throw = x.throw ∧ m.adv = x.adv ∧ m.lo ≤ x.lo ∧ x.hi ≤ m.hi :=
 found_more (fun r' hr' => by obtain ⟨r, h2, h3, -⟩ := fewR_mem h h0 h1 r' hr'; exact ⟨r, h2, h3⟩) hx
theorem find_cases {p : Pic} (hB : picB p = true) : findE p = 4 ∨ ((findE p = 0 ∧ 0 < (foundL p).length ∨ findE p = 6 ∧ (foundL p).length = 0) ∧ findL p = foundL p ∧ (foundL p).length ≤ 400) := by
 unfold findL findE
 rw [hB, if_pos rfl]
 by_cases h : foundL p = []
 ·rw [if_pos h, h]; right; exact ⟨.inr ⟨rfl, rfl⟩, rfl, by simp⟩
 ·rw [if_neg h]
  by_cases h4 : 400 < (foundL p).length
  ·rw [if_pos h4]; left; rfl
  ·rw [if_neg h4]
   have : 0 < (foundL p).length := by cases e : foundL p with | nil => exact absurd e h | cons a l => simp
   right; exact ⟨.inl ⟨rfl, this⟩, rfl, by omega⟩
theorem find_ok {p : Pic} (h : findE p = 0) : picB p = true := by
 unfold findE at h
 cases hB : picB p with
 | true => rfl
 | false => rw [hB] at h; cases h
end Go.Proofs.YtphdalgaemefoaaGreat
