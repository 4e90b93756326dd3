/- exact: fractions that are arguments: what they are; in. The reference: groups. reference 1: In. -/
import Derived.Test.YtbikpadjmmgpcaaOutR
import Derived.Test.YtbikpadjmmgpcaaRN1
import Derived.Test.YtbikpadjmmgpcaaRQ1
namespace Go.Proofs.Ytbikpadjmmgpcaa
open Go.RowKit Go.Shelf
set_option linter.unusedVariables false
set_option linter.unusedSimpArgs false
/-- A fraction as it comes in. -/
structure FracA where
  sn : Bool
  gn : List Nat
  sd : Bool
  gd : List Nat
def FracA.ok (x : FracA) : Bool := isW x.sn x.gn && isW x.sd x.gd && !x.sd && decide (0 < x.gd.length)
open Classical in
/-- The fraction that it is, if it is valid. -/
noncomputable def FracA.rat? (x : FracA) : Option Rat := if x.ok = true ∧ Nat.gcd (nv x.gn) (nv x.gd) = 1 then some (mkR x.sn (nv x.gn) (nv x.gd)) else none
def IsFracA (L : Nat → Prop) (w : World) (v : Value) (x : FracA) : Prop := ∃ A c B d, v = .agg #[.bool x.sn, .slice A x.gn.length c, .bool x.sd, .slice B x.gd.length d] ∧ ArrL L (gv .u32) w (.slice A x.gn.length c) x.gn ∧ ArrL L (gv .u32) w (.slice B x.gd.length d) x.gd
theorem IsFracA.le {L : Nat → Prop} {w W : World} {v : Value} {x : FracA} (h : IsFracA L w v x) (hb : Le w W) : IsFracA L W v x := by
  obtain ⟨A, c, B, d, e, h1, h2⟩ := h
  exact ⟨A, c, B, d, e, h1.le hb, h2.le hb⟩
theorem IsFracA.stays {L : Nat → Prop} {w W : World} {v : Value} {x : FracA} (h : IsFracA L w v x) (hb : Stays L w W) : IsFracA L W v x := by
  obtain ⟨A, c, B, d, e, h1, h2⟩ := h
  exact ⟨A, c, B, d, e, h1.stays hb, h2.stays hb⟩
theorem IsFracA.mono {L L2 : Nat → Prop} {w : World} {v : Value} {x : FracA} (h : IsFracA L w v x) (hL : ∀ b, L b → L2 b) : IsFracA L2 w v x := by
  obtain ⟨A, c, B, d, e, h1, h2⟩ := h
  exact ⟨A, c, B, d, e, h1.mono hL, h2.mono hL⟩
theorem isW_norm {s : Bool} {g : List Nat} (h : isW s g = true) : Norm g ∧ g.length ≤ 40 ∧ (nv g = 0 → s = false) := by
  unfold isW at h
  simp only [Bool.and_eq_true, decide_eq_true_eq, Bool.not_eq_true'] at h
  obtain ⟨⟨h1, h2⟩, h3⟩ := h
  have hB := B9_eq
  have hlow : Low g := fun x hx => by
    rw [hB]
    have := List.any_eq_false.1 h2 x hx
    simpa using this
  have hlast : g.getLast? ≠ some 0 := by
    by_cases h0 : g.length = 0
    · have : g = [] := List.eq_nil_of_length_eq_zero h0
      subst this; simp
    · rw [if_neg h0] at h3
      rw [List.getLast?_eq_getElem?]
      intro e
      rw [List.getD_eq_getElem?_getD, e] at h3
      simp at h3
  refine ⟨⟨hlow, hlast⟩, h1, fun hz => ?_⟩
  by_cases h0 : g.length = 0
  · rw [if_pos h0] at h3
    simpa using h3
  · have := nv_pos hlast (fun e => h0 (by rw [e]; rfl))
    omega
theorem isW_dg {s : Bool} {g : List Nat} (h : isW s g = true) : dg (nv g) = g := dg_nv (isW_norm h).1
structure FracA.Val (x : FracA) (r : Rat) : Prop where
  neg : rneg r = x.sn
  num : dg (rnum r) = x.gn
  den : dg r.den = x.gd
  pos : x.sd = false
  wn : isW x.sn x.gn = true
  wd : isW false x.gd = true
  sz : Rsz r 40
theorem FracA.val {x : FracA} {r : Rat} (h : x.rat? = some r) : x.Val r := by
  unfold FracA.rat? at h
  split at h
  · rename_i hc
    injection h with h
    subst h
    obtain ⟨hok, hg⟩ := hc
    unfold FracA.ok at hok
    simp only [Bool.and_eq_true, decide_eq_true_eq, Bool.not_eq_true'] at hok
    obtain ⟨⟨⟨h1, h2⟩, h3⟩, h4⟩ := hok
    obtain ⟨n1, n2, n3⟩ := isW_norm h1
    obtain ⟨d1, d2, d3⟩ := isW_norm h2
    have hd : nv x.gd ≠ 0 := Nat.ne_of_gt (nv_pos d1.2 (fun e => by rw [e] at h4; simp at h4))
    have e1 : rneg (mkR x.sn (nv x.gn) (nv x.gd)) = x.sn := by
      rw [mkR_neg _ _ _ hd]
      by_cases hz : nv x.gn = 0
      · rw [n3 hz]; rfl
      · rw [show decide (0 < nv x.gn) = true by simp; omega, Bool.and_true]
    have e2 : rnum (mkR x.sn (nv x.gn) (nv x.gd)) = nv x.gn := by rw [mkR_num _ _ _ hd, hg, Nat.div_one]
    have e3 : (mkR x.sn (nv x.gn) (nv x.gd)).den = nv x.gd := by rw [mkR_den _ _ _ hd, hg, Nat.div_one]
    refine ⟨e1, by rw [e2, dg_nv n1], by rw [e3, dg_nv d1], h3, h1, by rw [h3] at h2; exact h2, ?_, ?_⟩
    · rw [e2, dg_nv n1]; exact n2
    · rw [e3, dg_nv d1]; exact d2
  · cases h
theorem FracA.bad {x : FracA} (h : x.rat? = none) : x.ok = false ∨ (isW x.sn x.gn = true ∧ isW false x.gd = true ∧ x.sd = false ∧ nv x.gd ≠ 0 ∧ Nat.gcd (nv x.gn) (nv x.gd) ≠ 1) := by
  unfold FracA.rat? at h
  split at h
  · cases h
  · rename_i hc
    cases hok : x.ok with
    | false => exact .inl rfl
    | true =>
      have h5 := hok
      unfold FracA.ok at h5
      simp only [Bool.and_eq_true, decide_eq_true_eq, Bool.not_eq_true'] at h5
      obtain ⟨⟨⟨h1, h2⟩, h3⟩, h4⟩ := h5
      obtain ⟨d1, d2, d3⟩ := isW_norm h2
      refine .inr ⟨h1, by rw [h3] at h2; exact h2, h3, Nat.ne_of_gt (nv_pos d1.2 (fun e => by rw [e] at h4; simp at h4)), fun hg => hc ⟨hok, hg⟩⟩
theorem pf_in_some (L : Nat → Prop) (x : FracA) (r : Rat) (v : Value) (w : World) (hL : Up w L) (h : IsFracA L w v x) (hr : x.rat? = some r) :
    Calls Try.prog 29 #[v] w fun e w' => ∃ v', e = .returned v' ∧ Le w w' ∧ RatL L .u32 w' v' r := by
  obtain ⟨A, c, B, d, rfl, h1, h2⟩ := h
  have V := FracA.val hr
  have k := pf_in_ok L r (.slice A x.gn.length c) (.slice B x.gd.length d) w hL (by unfold NumL; rw [V.num]; exact h1) (by unfold NumL; rw [V.den]; exact h2) (by rw [V.neg, V.num]; exact V.wn) (by rw [V.den]; exact V.wd) V.sz
  rw [V.neg] at k
  rw [V.pos]
  exact k
theorem pf_in_none (L : Nat → Prop) (x : FracA) (v : Value) (w : World) (hL : Up w L) (h : IsFracA L w v x) (hr : x.rat? = none) :
    Calls Try.prog 29 #[v] w fun e w' => e = .panicked [{ v := .iface 87 (.agg #[.int .i64 10]), recovered := false }] ∧ Le w w' := by
  obtain ⟨A, c, B, d, rfl, h1, h2⟩ := h
  rcases FracA.bad hr with hb | ⟨b1, b2, b3, b4, b5⟩
  · exact pf_in_no L x.sn x.sd x.gn x.gd _ _ w hL h1 h2 hb
  · rw [b3]
    have e1 := isW_dg b1
    have e2 := isW_dg b2
    exact pf_in_gcd L x.sn (nv x.gn) (nv x.gd) _ _ w hL (by unfold NumL; rw [e1]; exact h1) (by unfold NumL; rw [e2]; exact h2) b4 (by rw [e1]; exact b1) (by rw [e2]; exact b2) (by rw [e1]; exact (isW_norm b1).2.1) (by rw [e2]; exact (isW_norm b2).2.1) b5
end Go.Proofs.Ytbikpadjmmgpcaa
namespace Go.Proofs.Ytbikpadjmmgpcaa
open Go.RowKit Go.Shelf
set_option linter.unusedVariables false
set_option linter.unusedSimpArgs false
def zeroQ : Value := .agg #[.bool false, .slice none 0 0, .slice none 0 0]
def InPost (L : Nat → Prop) (x : FracA) (w : World) (e : Ending) (w' : World) : Prop := Le w w' ∧ ((∃ r, x.rat? = some r ∧ ∃ v, e = .returned (.tuple #[v, .bool true]) ∧ RatL L .i64 w' v r) ∨ (x.rat? = none ∧ e = .returned (.tuple #[zeroQ, .bool false])))
theorem FracA.not_ok {x : FracA} (h : x.ok = false) : x.rat? = none := by
  unfold FracA.rat?
  rw [if_neg (by rw [h]; simp)]
theorem FracA.not_gcd {x : FracA} (h : Nat.gcd (nv x.gn) (nv x.gd) ≠ 1) : x.rat? = none := by
  unfold FracA.rat?
  rw [if_neg fun hh => h hh.2]
theorem FracA.is_rat {x : FracA} (h1 : isW x.sn x.gn = true) (h2 : isW x.sd x.gd = true) (h3 : x.sd = false) (h4 : x.gd.length ≠ 0) (hg : Nat.gcd (nv x.gn) (nv x.gd) = 1) : ∃ r, x.rat? = some r := by
  refine ⟨mkR x.sn (nv x.gn) (nv x.gd), ?_⟩
  unfold FracA.rat?
  rw [if_pos ⟨by unfold FracA.ok; rw [h1, h2, h3]; simp; omega, hg⟩]
theorem cells4F {W : World} {X : Nat} {v0 v1 v2 v3 : Value} {t : TypeId} (h : W.heap[X]? = some (Obj.cells #[v0, v1, v2, v3] t)) : W.cell? ⟨X, 0, none⟩ = some v0 ∧ W.cell? ⟨X, 1, none⟩ = some v1 ∧ W.cell? ⟨X, 2, none⟩ = some v2 ∧ W.cell? ⟨X, 3, none⟩ = some v3 := cells4 h
end Go.Proofs.Ytbikpadjmmgpcaa
