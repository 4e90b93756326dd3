/- The laws' helper changed: its walk. -/
import Derived.Test.YtnboppombhibbaaTwin
import Derived.Test.YtnboppombhibbaaSym
namespace Go.Proofs.Ytnboppombhibbaa
open Go.RowKit Go.Lib
set_option linter.unusedVariables false
set_option linter.unusedSimpArgs false
attribute [local go_sem] Oper.semAt_some
attribute [local go_sem ↓] Go.wp_at_zero Go.wp_at_succ
/-- A list, its first k elements made anew. -/
def partL (f : Nat → Int) (l : List Int) (k : Nat) : List Int := (List.range l.length).map fun i => if i < k then f i else l.getD i 0
theorem partL_length (f : Nat → Int) (l : List Int) (k : Nat) : (partL f l k).length = l.length := by simp [partL]
theorem partL_get (f : Nat → Int) (l : List Int) (k i : Nat) (h : i < l.length) : (partL f l k)[i]? = some (if i < k then f i else l.getD i 0) := by
  unfold partL
  simp [h]
theorem partL_zero (f : Nat → Int) (l : List Int) : partL f l 0 = l := by
  apply List.ext_getElem?
  intro i
  by_cases h : i < l.length
  · rw [partL_get f l 0 i h]; simp [h]
  · rw [List.getElem?_eq_none (by rw [partL_length]; omega), List.getElem?_eq_none (by omega)]
theorem partL_set (f : Nat → Int) (l : List Int) (k : Nat) (h : k < l.length) : (partL f l k).set k (f k) = partL f l (k + 1) := by
  apply List.ext_getElem?
  intro i
  by_cases hi : i < l.length
  · rw [partL_get f l (k + 1) i hi, List.getElem?_set]
    by_cases h1 : k = i
    · rw [if_pos h1, if_pos (by rw [partL_length]; omega), if_pos (by omega), h1]
    · rw [if_neg h1, partL_get f l k i hi]
      congr 1
      by_cases h2 : i < k
      · rw [if_pos h2, if_pos (by omega)]
      · rw [if_neg h2, if_neg (by omega)]
  · rw [List.getElem?_eq_none (by rw [List.length_set, partL_length]; omega), List.getElem?_eq_none (by rw [partL_length]; omega)]
theorem partL_all (f : Nat → Int) (l : List Int) : partL f l l.length = (List.range l.length).map f := by
  apply List.ext_getElem?
  intro i
  by_cases hi : i < l.length
  · rw [partL_get f l l.length i hi, if_pos hi]; simp [hi]
  · rw [List.getElem?_eq_none (by rw [partL_length]; omega), List.getElem?_eq_none (by simp; omega)]
theorem rev_range (l : List Int) : (List.range l.length).map (fun i => l.getD (l.length - 1 - i) 0) = l.reverse := by
  apply List.ext_getElem?
  intro i
  by_cases hi : i < l.length
  · rw [List.getElem?_reverse hi]
    simp [hi, show l.length - 1 - i < l.length by omega]
  · rw [List.getElem?_eq_none (by simp; omega), List.getElem?_eq_none (by simp; omega)]
/-- The boxes of changed, and the two lists that are written. -/
structure ChSt (w : World) (cs zs qs : Array Value) (Q l1 g1 c1 m l5 g5 c5 n : Nat) (R S : List Int) (W : World) : Prop where
  below : Below w.heap.size w W
  hB : W.heap[w.heap.size]? = some (.cells cs 24)
  hC : W.heap[w.heap.size + 1]? = some (.cells zs 24)
  hQ : W.heap[Q]? = some (.cells qs 24)
  rub : Copy W l1 g1 c1 m R
  sh : Copy W l5 g5 c5 n S
  a1 : w.heap.size + 2 ≤ l1
  a2 : g1 < l5
  a3 : g5 < Q
  a4 : w.heap.size + 2 ≤ l5
section
variable {w : World} {cs zs qs : Array Value} {Q l1 g1 c1 m l5 g5 c5 n : Nat} {R S : List Int} {W W2 : World}
theorem ChSt.next (h : ChSt w cs zs qs Q l1 g1 c1 m l5 g5 c5 n R S W) (hb : Below W.heap.size W W2) : ChSt w cs zs qs Q l1 g1 c1 m l5 g5 c5 n R S W2 :=
  have hz := h.below.size
  have k : ∀ {b : Nat} {o : Obj}, W.heap[b]? = some o → W2.heap[b]? = some o := fun {b o} e => (hb.block b (Array.getElem?_eq_some_iff.1 e).1).trans e
  ⟨h.below.trans (hb.mono hz), k h.hB, k h.hC, k h.hQ, h.rub.next hb, h.sh.next hb, h.a1, h.a2, h.a3, h.a4⟩
theorem ChSt.drewN (h : ChSt w cs zs qs Q l1 g1 c1 m l5 g5 c5 n R S W) (q : Nat) : ChSt w cs zs qs Q l1 g1 c1 m l5 g5 c5 n R S (W.drewN q) := ⟨below_drewN' h.below q, h.hB, h.hC, h.hQ, h.rub.drewN q, h.sh.drewN q, h.a1, h.a2, h.a3, h.a4⟩
theorem ChSt.drew (h : ChSt w cs zs qs Q l1 g1 c1 m l5 g5 c5 n R S W) : ChSt w cs zs qs Q l1 g1 c1 m l5 g5 c5 n R S W.drew := ⟨h.below.drew, h.hB, h.hC, h.hQ, h.rub.drew, h.sh.drew, h.a1, h.a2, h.a3, h.a4⟩
theorem ChSt.putS (h : ChSt w cs zs qs Q l1 g1 c1 m l5 g5 c5 n R S W) (k : Nat) (y : Int) : ChSt w cs zs qs Q l1 g1 c1 m l5 g5 c5 n R (S.set k y) (W.setCell ⟨g5, k, none⟩ (.int .i64 y)) := by
  have h1 := h.rub.lt
  have h5 := h.sh.lt
  have b1 := h.a1
  have b2 := h.a2
  have b3 := h.a3
  have b4 := h.a4
  exact ⟨h.below.setCell (p := ⟨g5, k, none⟩) (by show w.heap.size ≤ g5; omega) _, (Below.heap_setCell _ _ _ _ (by show w.heap.size ≠ g5; omega)).trans h.hB, (Below.heap_setCell _ _ _ _ (by show w.heap.size + 1 ≠ g5; omega)).trans h.hC, (Below.heap_setCell _ _ _ _ (by show Q ≠ g5; omega)).trans h.hQ, h.rub.aside (by omega) _, h.sh.put k y, b1, b2, b3, b4⟩
theorem ChSt.putR (h : ChSt w cs zs qs Q l1 g1 c1 m l5 g5 c5 n R S W) (k : Nat) (y : Int) : ChSt w cs zs qs Q l1 g1 c1 m l5 g5 c5 n (R.set k y) S (W.setCell ⟨g1, k, none⟩ (.int .i64 y)) := by
  have h1 := h.rub.lt
  have h5 := h.sh.lt
  have b1 := h.a1
  have b2 := h.a2
  have b3 := h.a3
  have b4 := h.a4
  exact ⟨h.below.setCell (p := ⟨g1, k, none⟩) (by show w.heap.size ≤ g1; omega) _, (Below.heap_setCell _ _ _ _ (by show w.heap.size ≠ g1; omega)).trans h.hB, (Below.heap_setCell _ _ _ _ (by show w.heap.size + 1 ≠ g1; omega)).trans h.hC, (Below.heap_setCell _ _ _ _ (by show Q ≠ g1; omega)).trans h.hQ, h.rub.put k y, h.sh.aside (by omega) _, b1, b2, b3, b4⟩
end
theorem Copy.cell {W : World} {lo g c n : Nat} {zs : List Int} (h : Copy W lo g c n zs) {k : Nat} {x : Int} (hk : zs[k]? = some x) : W.cell? ⟨g, k, none⟩ = some (.int .i64 x) := own_cell h.own h.len hk
theorem set_get (L : List Int) (k : Nat) (a : Int) (b : Int) (h : k < (L.set k a).length) : (L.set k a)[k]? = some a := by
  rw [List.getElem?_set, if_pos rfl, if_pos (by simpa using h)]
theorem rowUp {W W' : World} {base e n n0 : Nat} {v : Value} {xs : List Value} (h : W.ownsRow base e 1 v n xs) (hb : n0 ≤ base) (hW : ∀ k, n0 ≤ k → W'.heap[k]? = W.heap[k]?) : W'.ownsRow base e 1 v n xs :=
  row_same h fun k hk => hW k (by have := (h.lt k hk).1; omega)
theorem copyUp {W W' : World} {lo g c n n0 : Nat} {zs : List Int} (h : Copy W lo g c n zs) (hb : n0 ≤ lo) (hW : ∀ k, n0 ≤ k → W'.heap[k]? = W.heap[k]?) : Copy W' lo g c n zs := ⟨rowUp h.own hb hW, h.len⟩
theorem how_bits : ∀ h : Nat, h ≤ 3 → (bits .and .u8 (h : Int) 1 != 0) = (h % 2 == 1) ∧ (bits .and .u8 (h : Int) 2 != 0) = (h / 2 % 2 == 1) := by
  intro h hh
  have : h = 0 ∨ h = 1 ∨ h = 2 ∨ h = 3 := by omega
  rcases this with rfl | rfl | rfl | rfl <;> decide
set_option maxRecDepth 100000 in
set_option maxHeartbeats 4000000 in
theorem pf_changed (v : Value) (p : Prog) (fr by_ how : Nat) (w : World) (hv : IsProg w v p) (hE : progE p = 0) (hfr : fr < p.shifts.length) (hby : by_ ≤ 255) (hh : how ≤ 3) :
    Calls Try.prog 49 #[v, .int .i64 fr, .int .i64 by_, .int .u8 how] w fun e w' => ∃ u, e = .returned (.tuple #[u, .bool true]) ∧ Below w.heap.size w w' ∧ ∀ W', (∀ k, w.heap.size ≤ k → W'.heap[k]? = w'.heap[k]?) → IsProg W' u (chP p fr by_ (how % 2 == 1) (how / 2 % 2 == 1)) := by
  have hp0 := Lib.hid hv
  have hbf := benchFacts hE
  obtain ⟨v0, v1, v5, rfl, i0, i1, i5⟩ := hv
  obtain ⟨b1, b2⟩ := how_bits how hh
  obtain ⟨mi, hmi⟩ : ∃ b, (how % 2 == 1) = b := ⟨_, rfl⟩
  obtain ⟨ba, hba⟩ : ∃ b, (how / 2 % 2 == 1) = b := ⟨_, rfl⟩
  rw [hmi] at b1 ⊢
  rw [hba] at b2 ⊢
  obtain ⟨r1, hr1⟩ : ∃ r, bits .and .u8 (how : Int) 1 = r := ⟨_, rfl⟩
  obtain ⟨r2, hr2⟩ : ∃ r, bits .and .u8 (how : Int) 2 = r := ⟨_, rfl⟩
  rw [hr1] at b1
  rw [hr2] at b2
  have hru := (rubOk_iff.1 hbf.rub)
  have hrb : p.rub.length ≤ 31 := by omega
  have hr0 := hbf.ros0
  have hr9 := hbf.ros1
  have hs0 := hbf.sh0
  have hs9 := hbf.sh1
  have hsr := hbf.sh
  have ktwin := fun W V h => pf_r4_TwinOwn V p W h ⟨by omega, by omega, by omega⟩
  obtain ⟨la, lo, ca, rfl, hla, -, -, hca⟩ := Ints.cells i5 (by omega)
  obtain ⟨Aa, c0, rfl, -⟩ := id i0
  obtain ⟨Ab, cb, rfl, -⟩ := id i1
  have i0' := Lib.hid i0
  have i1' := Lib.hid i1
  have i5' := Lib.hid i5
  have hbf' := Lib.hid hbf
  have hmi' := Lib.hid hmi
  have hba' := Lib.hid hba
  have hru' := Lib.hid hru
  have ktwin' := Lib.hid ktwin
  have hsr' := Lib.hid hsr
  have hca' := Lib.hid hca
  clear hca hsr ktwin hru hba hmi hbf i5 i1 i0
  go_enter Try.func49, Try.ntmps49
  have ht := Twins.start w #[.slice Aa p.ros.length c0, .slice Ab p.rub.length cb, .int .i64 p.start, .int .i64 p.throw, .int .i64 p.adv, .slice (some ⟨la, lo, none⟩) p.shifts.length ca] #[.slice none 0 0, .slice none 0 0, .int .i64 0, .int .i64 0, .int .i64 0, .slice none 0 0]
  go_upto_region 2 with (first | (go_at_call 15; (with_reducible refine (ktwin'.out _ _ (hp0.out.below (alc2 _ _ _))).mono ?_); rintro e w' ⟨g0, d0, g1, d1, g5, d5, l1, l5, rfl, hb, hc0, hl1, hg0, hc1, hl5, hg1, hc5⟩))
  have hb02 := alc2 w (.cells #[.slice Aa p.ros.length c0, .slice Ab p.rub.length cb, .int .i64 p.start, .int .i64 p.throw, .int .i64 p.adv, .slice (some ⟨la, lo, none⟩) p.shifts.length ca] 24) (.cells #[.slice none 0 0, .slice none 0 0, .int .i64 0, .int .i64 0, .int .i64 0, .slice none 0 0] 24)
  have hz0 : ((w.alloc (.cells #[.slice Aa p.ros.length c0, .slice Ab p.rub.length cb, .int .i64 p.start, .int .i64 p.throw, .int .i64 p.adv, .slice (some ⟨la, lo, none⟩) p.shifts.length ca] 24)).alloc (.cells #[.slice none 0 0, .slice none 0 0, .int .i64 0, .int .i64 0, .int .i64 0, .slice none 0 0] 24)).heap.size = w.heap.size + 2 := by simp
  rw [hz0] at hl1
  have hst0 : ChSt w #[.slice Aa p.ros.length c0, .slice Ab p.rub.length cb, .int .i64 p.start, .int .i64 p.throw, .int .i64 p.adv, .slice (some ⟨la, lo, none⟩) p.shifts.length ca] #[.slice none 0 0, .slice none 0 0, .int .i64 0, .int .i64 0, .int .i64 0, .slice none 0 0] #[.slice (some ⟨g0, 0, none⟩) p.ros.length d0, .slice (some ⟨g1, 0, none⟩) p.rub.length d1, .int .i64 p.start, .int .i64 p.throw, .int .i64 p.adv, .slice (some ⟨g5, 0, none⟩) p.shifts.length d5] w'.heap.size l1 g1 d1 p.rub.length l5 g5 d5 p.shifts.length p.rub p.shifts (w'.alloc (.cells #[.slice (some ⟨g0, 0, none⟩) p.ros.length d0, .slice (some ⟨g1, 0, none⟩) p.rub.length d1, .int .i64 p.start, .int .i64 p.throw, .int .i64 p.adv, .slice (some ⟨g5, 0, none⟩) p.shifts.length d5] 24)) := by
    have hs0 := hb.size
    have e := alc1 w' (.cells #[.slice (some ⟨g0, 0, none⟩) p.ros.length d0, .slice (some ⟨g1, 0, none⟩) p.rub.length d1, .int .i64 p.start, .int .i64 p.throw, .int .i64 p.adv, .slice (some ⟨g5, 0, none⟩) p.shifts.length d5] 24)
    refine ⟨(hb02.trans (hb.mono (by omega))).trans (e.mono (by omega)), (e.block _ (by omega)).trans ((hb.block _ (by omega)).trans ht.box), (e.block _ (by omega)).trans ((hb.block _ (by omega)).trans ht.out), heap_alloc_new _ _, hc1.next e, hc5.next e, by omega, hg1, hc5.lt.2, by omega⟩
  obtain ⟨Q, hQ⟩ : ∃ Q, w'.heap.size = Q := ⟨_, rfl⟩
  rw [hQ] at hst0 ⊢
  generalize w'.alloc (.cells #[.slice (some ⟨g0, 0, none⟩) p.ros.length d0, .slice (some ⟨g1, 0, none⟩) p.rub.length d1, .int .i64 p.start, .int .i64 p.throw, .int .i64 p.adv, .slice (some ⟨g5, 0, none⟩) p.shifts.length d5] 24) = W2 at hst0 ⊢
  clear ht hb hc0 hc1 hc5 hl1 hg0 hl5 hg1 hb02 hz0 hQ
  have hst := Lib.hid hst0
  obtain ⟨p0, p1, p2, p3, p4, p5⟩ := prog_cells hst0.hB
  obtain ⟨q0, q1, q2, q3, q4, q5⟩ := prog_cells hst0.hQ
  clear hst0
  go_wp2
  clear p0 p1 p2 p3 p4 p5 q0 q1 q2 q3 q4 q5
  go_loopw [24] (fun i wr => ∃ k : Nat, k ≤ p.shifts.length ∧ i = .int .i64 k ∧ Hid (ChSt w #[.slice Aa p.ros.length c0, .slice Ab p.rub.length cb, .int .i64 p.start, .int .i64 p.throw, .int .i64 p.adv, .slice (some ⟨la, lo, none⟩) p.shifts.length ca] #[.slice none 0 0, .slice none 0 0, .int .i64 0, .int .i64 0, .int .i64 0, .slice none 0 0] #[.slice (some ⟨g0, 0, none⟩) p.ros.length d0, .slice (some ⟨g1, 0, none⟩) p.rub.length d1, .int .i64 p.start, .int .i64 p.throw, .int .i64 p.adv, .slice (some ⟨g5, 0, none⟩) p.shifts.length d5] Q l1 g1 d1 p.rub.length l5 g5 d5 p.shifts.length p.rub (partL (chS p fr mi ba) p.shifts k) wr)) (fun i _ => p.shifts.length - (intOf i).toNat)
  case atStart => exact ⟨0, Nat.zero_le _, rfl, by rw [partL_zero]; exact hst⟩
  case round =>
    clear hst
    obtain ⟨k, hk, rfl, hst⟩ := hrel
    by_cases hlt : k < p.shifts.length
    · obtain ⟨k1, hk1⟩ : ∃ x, (k + fr) % p.shifts.length = x := ⟨_, rfl⟩
      obtain ⟨k2, hk2⟩ : ∃ x, (2 * p.shifts.length - 1 - k + fr) % p.shifts.length = x := ⟨_, rfl⟩
      have hk1l : k1 < p.shifts.length := by rw [← hk1]; exact Nat.mod_lt _ (by omega)
      have hk2l : k2 < p.shifts.length := by rw [← hk2]; exact Nat.mod_lt _ (by omega)
      have hgd : ∀ i, i < p.shifts.length → 0 ≤ p.shifts.getD i 0 ∧ p.shifts.getD i 0 < p.ros.length ∧ w.cell? ⟨la, lo + i, none⟩ = some (.int .i64 (p.shifts.getD i 0)) := fun i hi => by
        have h1 := hsr'.out i hi
        have h2 := hca'.out i hi
        simpa [hi] using ⟨h1.1, h1.2, h2⟩
      obtain ⟨x1a, x1b, cX1⟩ := hgd k1 hk1l
      obtain ⟨x2a, x2b, cX2⟩ := hgd k2 hk2l
      obtain ⟨z, hz⟩ : ∃ z, chS p fr mi ba k = z := ⟨_, rfl⟩
      have hz0 : z = (if mi then (p.ros.length : Int) - (if ba then (p.ros.length : Int) - p.shifts.getD k2 0 else p.shifts.getD k1 0) else (if ba then (p.ros.length : Int) - p.shifts.getD k2 0 else p.shifts.getD k1 0)) % (p.ros.length : Int) := by
        rw [← hz, ← hk1, ← hk2]; rfl
      generalize p.shifts.getD k1 0 = x1 at x1a x1b cX1 hz0
      generalize p.shifts.getD k2 0 = x2 at x2a x2b cX2 hz0
      have ew1 : IntKind.i64.wrap ((k : Int) + (fr : Int)) = (k : Int) + (fr : Int) := IntWalk.i64_in _ (by omega)
      have et1 : ((k : Int) + (fr : Int)).tmod (p.shifts.length : Int) = (k1 : Int) := by rw [← hk1]; rfl
      have ew2 : IntKind.i64.wrap (2 * (p.shifts.length : Int)) = 2 * (p.shifts.length : Int) := IntWalk.i64_in _ (by omega)
      have ew3 : IntKind.i64.wrap (2 * (p.shifts.length : Int) - 1) = 2 * (p.shifts.length : Int) - 1 := IntWalk.i64_in _ (by omega)
      have ew4 : IntKind.i64.wrap (2 * (p.shifts.length : Int) - 1 - (k : Int)) = 2 * (p.shifts.length : Int) - 1 - (k : Int) := IntWalk.i64_in _ (by omega)
      have ew5 : IntKind.i64.wrap (2 * (p.shifts.length : Int) - 1 - (k : Int) + (fr : Int)) = ((2 * p.shifts.length - 1 - k + fr : Nat) : Int) := by rw [IntWalk.i64_in _ (by omega)]; omega
      have et2 : ((2 * p.shifts.length - 1 - k + fr : Nat) : Int).tmod (p.shifts.length : Int) = (k2 : Int) := by rw [← hk2]; rfl
      obtain ⟨kk, hkk⟩ : ∃ x : Nat, 2 * p.shifts.length - 1 - k + fr = x := ⟨_, rfl⟩
      rw [hkk] at ew5 et2
      have ew6 : IntKind.i64.wrap ((p.ros.length : Int) - x2) = (p.ros.length : Int) - x2 := IntWalk.i64_in _ (by omega)
      have ew7 : IntKind.i64.wrap ((p.ros.length : Int) - x1) = (p.ros.length : Int) - x1 := IntWalk.i64_in _ (by omega)
      have ew8 : IntKind.i64.wrap ((p.ros.length : Int) - ((p.ros.length : Int) - x2)) = (p.ros.length : Int) - ((p.ros.length : Int) - x2) := IntWalk.i64_in _ (by omega)
      have hnz1 : ¬ (p.shifts.length : Int) = 0 := by omega
      have hnz2 : ¬ (p.ros.length : Int) = 0 := by omega
      have i1 : (0 : Int) ≤ (k : Int) := by omega
      have i2 : (k : Int) < (p.shifts.length : Int) := by omega
      have i3 : (0 : Int) ≤ (k1 : Int) := by omega
      have i4 : (k1 : Int) < (p.shifts.length : Int) := by omega
      have i5 : (0 : Int) ≤ (k2 : Int) := by omega
      have i6 : (k2 : Int) < (p.shifts.length : Int) := by omega
      have hk1' := Lib.hid hk1
      have hk2' := Lib.hid hk2
      have hz' := Lib.hid hz
      have hz0' := Lib.hid hz0
      have cX1' := Lib.hid cX1
      have cX2' := Lib.hid cX2
      have hgd' := Lib.hid hgd
      have hkk' := Lib.hid hkk
      clear hkk hgd cX2 cX1 hz0 hz hk2 hk1
      cases ba
      · cases mi
        · have hzz : z = x1 % (p.ros.length : Int) := hz0'.out
          have hzz' := Lib.hid hzz
          clear hzz
          obtain ⟨p0, p1, p2, p3, p4, p5⟩ := prog_cells hst.out.hB
          obtain ⟨q0, q1, q2, q3, q4, q5⟩ := prog_cells hst.out.hQ
          have cS := hst.out.sh.cell (partL_get (chS p fr _ _) p.shifts k k hlt)
          have fS := hst.out.sh.own.frozenAt k
          have cX := (hst.out.below.cell (p := ⟨la, lo + k1, none⟩) hla).trans cX1'.out
          go_upto_region 6 with (fail)
          refine wp_region_quiet_tail 12 (by kernel_rfl) (by kernel_rfl) ?_
          simp only [List.take_succ_cons, List.take_zero, List.drop_succ_cons, List.drop_zero]
          repeat (go_big_quiet_step (fail))
          refine wpQuiet_nil ?_
          intro _ hw'
          obtain ⟨nq, hw''⟩ := hw'
          subst hw''
          have stq := Lib.hid (hst.out.drewN nq)
          clear p0 p1 p2 p3 p4 p5 q0 q1 q2 q3 q4 q5 cS fS cX hst
          generalize wr.drewN nq = wq at stq ⊢
          have cS := stq.out.sh.cell (x := if k < k then chS p fr false false k else p.shifts.getD k 0) (partL_get (chS p fr _ _) p.shifts k k hlt)
          have fS := stq.out.sh.own.frozenAt k
          go_upto_region 11 with (fail)
          have st1 := Lib.hid (stq.out.putS k (x1))
          clear cS fS stq
          generalize wq.setCell ⟨g5, k, none⟩ (.int .i64 (x1)) = w1 at st1 ⊢
          obtain ⟨p0, p1, p2, p3, p4, p5⟩ := prog_cells st1.out.hB
          obtain ⟨q0, q1, q2, q3, q4, q5⟩ := prog_cells st1.out.hQ
          have cS := st1.out.sh.cell (x := x1) (set_get _ _ _ 0 (by simp only [List.length_set, partL_length]; omega))
          have fS := st1.out.sh.own.frozenAt k
          have hcv : (x1).tmod (p.ros.length : Int) = z := by rw [Int.tmod_eq_emod_of_nonneg (by omega), hzz'.out]
          have wcv : IntKind.i64.wrap (x1) = x1 := IntWalk.i64_in _ (by omega)
          refine wp_region_quiet_tail 9 (by kernel_rfl) (by kernel_rfl) ?_
          simp only [List.take_succ_cons, List.take_zero, List.drop_succ_cons, List.drop_zero]
          repeat (go_big_quiet_step (fail))
          refine wpQuiet_nil ?_
          intro _ hw'
          obtain ⟨nq, hw''⟩ := hw'
          subst hw''
          have stq := Lib.hid (st1.out.drewN nq)
          clear p0 p1 p2 p3 p4 p5 q0 q1 q2 q3 q4 q5 cS fS st1
          generalize w1.drewN nq = wq at stq ⊢
          have cS := stq.out.sh.cell (x := x1) (set_get _ _ _ 0 (by simp only [List.length_set, partL_length]; omega))
          have fS := stq.out.sh.own.frozenAt k
          go_upto_region 12 with (fail)
          have st4 := Lib.hid (stq.out.putS k (z))
          clear cS fS stq
          generalize wq.setCell ⟨g5, k, none⟩ (.int .i64 (z)) = w4 at st4 ⊢
          have hfin : ∃ S, S = partL (chS p fr false false) p.shifts (k + 1) ∧ Hid (ChSt w #[.slice Aa p.ros.length c0, .slice Ab p.rub.length cb, .int .i64 p.start, .int .i64 p.throw, .int .i64 p.adv, .slice (some ⟨la, lo, none⟩) p.shifts.length ca] #[.slice none 0 0, .slice none 0 0, .int .i64 0, .int .i64 0, .int .i64 0, .slice none 0 0] #[.slice (some ⟨g0, 0, none⟩) p.ros.length d0, .slice (some ⟨g1, 0, none⟩) p.rub.length d1, .int .i64 p.start, .int .i64 p.throw, .int .i64 p.adv, .slice (some ⟨g5, 0, none⟩) p.shifts.length d5] Q l1 g1 d1 p.rub.length l5 g5 d5 p.shifts.length p.rub S w4) := ⟨_, by simp only [List.set_set]; rw [← hz'.out]; exact partL_set _ _ k hlt, st4⟩
          obtain ⟨S9, hS9, hst9⟩ := hfin
          subst hS9
          go_wp2
          go_roundw
          case rel => exact ⟨k + 1, by omega, by go_num, hst9⟩
          case measure => simp [intOf]; omega
        · have hzz : z = ((p.ros.length : Int) - x1) % (p.ros.length : Int) := hz0'.out
          have hzz' := Lib.hid hzz
          clear hzz
          obtain ⟨p0, p1, p2, p3, p4, p5⟩ := prog_cells hst.out.hB
          obtain ⟨q0, q1, q2, q3, q4, q5⟩ := prog_cells hst.out.hQ
          have cS := hst.out.sh.cell (partL_get (chS p fr _ _) p.shifts k k hlt)
          have fS := hst.out.sh.own.frozenAt k
          have cX := (hst.out.below.cell (p := ⟨la, lo + k1, none⟩) hla).trans cX1'.out
          go_upto_region 6 with (fail)
          refine wp_region_quiet_tail 12 (by kernel_rfl) (by kernel_rfl) ?_
          simp only [List.take_succ_cons, List.take_zero, List.drop_succ_cons, List.drop_zero]
          repeat (go_big_quiet_step (fail))
          refine wpQuiet_nil ?_
          intro _ hw'
          obtain ⟨nq, hw''⟩ := hw'
          subst hw''
          have stq := Lib.hid (hst.out.drewN nq)
          clear p0 p1 p2 p3 p4 p5 q0 q1 q2 q3 q4 q5 cS fS cX hst
          generalize wr.drewN nq = wq at stq ⊢
          have cS := stq.out.sh.cell (x := if k < k then chS p fr true false k else p.shifts.getD k 0) (partL_get (chS p fr _ _) p.shifts k k hlt)
          have fS := stq.out.sh.own.frozenAt k
          go_upto_region 10 with (fail)
          have st1 := Lib.hid (stq.out.putS k (x1))
          clear cS fS stq
          generalize wq.setCell ⟨g5, k, none⟩ (.int .i64 (x1)) = w1 at st1 ⊢
          obtain ⟨p0, p1, p2, p3, p4, p5⟩ := prog_cells st1.out.hB
          obtain ⟨q0, q1, q2, q3, q4, q5⟩ := prog_cells st1.out.hQ
          have cS := st1.out.sh.cell (x := x1) (set_get _ _ _ 0 (by simp only [List.length_set, partL_length]; omega))
          have fS := st1.out.sh.own.frozenAt k
          refine wp_region_quiet_tail 12 (by kernel_rfl) (by kernel_rfl) ?_
          simp only [List.take_succ_cons, List.take_zero, List.drop_succ_cons, List.drop_zero]
          repeat (go_big_quiet_step (fail))
          refine wpQuiet_nil ?_
          intro _ hw'
          obtain ⟨nq, hw''⟩ := hw'
          subst hw''
          have stq := Lib.hid (st1.out.drewN nq)
          clear p0 p1 p2 p3 p4 p5 q0 q1 q2 q3 q4 q5 cS fS st1
          generalize w1.drewN nq = wq at stq ⊢
          have cS := stq.out.sh.cell (x := x1) (set_get _ _ _ 0 (by simp only [List.length_set, partL_length]; omega))
          have fS := stq.out.sh.own.frozenAt k
          go_upto_region 11 with (fail)
          have st3 := Lib.hid (stq.out.putS k ((p.ros.length : Int) - (x1)))
          clear cS fS stq
          generalize wq.setCell ⟨g5, k, none⟩ (.int .i64 ((p.ros.length : Int) - (x1))) = w3 at st3 ⊢
          obtain ⟨p0, p1, p2, p3, p4, p5⟩ := prog_cells st3.out.hB
          obtain ⟨q0, q1, q2, q3, q4, q5⟩ := prog_cells st3.out.hQ
          have cS := st3.out.sh.cell (x := (p.ros.length : Int) - (x1)) (set_get _ _ _ 0 (by simp only [List.length_set, partL_length]; omega))
          have fS := st3.out.sh.own.frozenAt k
          have hcv : ((p.ros.length : Int) - (x1)).tmod (p.ros.length : Int) = z := by rw [Int.tmod_eq_emod_of_nonneg (by omega), hzz'.out]
          have wcv : IntKind.i64.wrap ((p.ros.length : Int) - (x1)) = (p.ros.length : Int) - (x1) := IntWalk.i64_in _ (by omega)
          refine wp_region_quiet_tail 9 (by kernel_rfl) (by kernel_rfl) ?_
          simp only [List.take_succ_cons, List.take_zero, List.drop_succ_cons, List.drop_zero]
          repeat (go_big_quiet_step (fail))
          refine wpQuiet_nil ?_
          intro _ hw'
          obtain ⟨nq, hw''⟩ := hw'
          subst hw''
          have stq := Lib.hid (st3.out.drewN nq)
          clear p0 p1 p2 p3 p4 p5 q0 q1 q2 q3 q4 q5 cS fS st3
          generalize w3.drewN nq = wq at stq ⊢
          have cS := stq.out.sh.cell (x := (p.ros.length : Int) - (x1)) (set_get _ _ _ 0 (by simp only [List.length_set, partL_length]; omega))
          have fS := stq.out.sh.own.frozenAt k
          go_upto_region 12 with (fail)
          have st4 := Lib.hid (stq.out.putS k (z))
          clear cS fS stq
          generalize wq.setCell ⟨g5, k, none⟩ (.int .i64 (z)) = w4 at st4 ⊢
          have hfin : ∃ S, S = partL (chS p fr true false) p.shifts (k + 1) ∧ Hid (ChSt w #[.slice Aa p.ros.length c0, .slice Ab p.rub.length cb, .int .i64 p.start, .int .i64 p.throw, .int .i64 p.adv, .slice (some ⟨la, lo, none⟩) p.shifts.length ca] #[.slice none 0 0, .slice none 0 0, .int .i64 0, .int .i64 0, .int .i64 0, .slice none 0 0] #[.slice (some ⟨g0, 0, none⟩) p.ros.length d0, .slice (some ⟨g1, 0, none⟩) p.rub.length d1, .int .i64 p.start, .int .i64 p.throw, .int .i64 p.adv, .slice (some ⟨g5, 0, none⟩) p.shifts.length d5] Q l1 g1 d1 p.rub.length l5 g5 d5 p.shifts.length p.rub S w4) := ⟨_, by simp only [List.set_set]; rw [← hz'.out]; exact partL_set _ _ k hlt, st4⟩
          obtain ⟨S9, hS9, hst9⟩ := hfin
          subst hS9
          go_wp2
          go_roundw
          case rel => exact ⟨k + 1, by omega, by go_num, hst9⟩
          case measure => simp [intOf]; omega
      · cases mi
        · have hzz : z = ((p.ros.length : Int) - x2) % (p.ros.length : Int) := hz0'.out
          have hzz' := Lib.hid hzz
          clear hzz
          obtain ⟨p0, p1, p2, p3, p4, p5⟩ := prog_cells hst.out.hB
          obtain ⟨q0, q1, q2, q3, q4, q5⟩ := prog_cells hst.out.hQ
          have cS := hst.out.sh.cell (partL_get (chS p fr _ _) p.shifts k k hlt)
          have fS := hst.out.sh.own.frozenAt k
          have cX := (hst.out.below.cell (p := ⟨la, lo + k1, none⟩) hla).trans cX1'.out
          go_upto_region 6 with (fail)
          refine wp_region_quiet_tail 12 (by kernel_rfl) (by kernel_rfl) ?_
          simp only [List.take_succ_cons, List.take_zero, List.drop_succ_cons, List.drop_zero]
          repeat (go_big_quiet_step (fail))
          refine wpQuiet_nil ?_
          intro _ hw'
          obtain ⟨nq, hw''⟩ := hw'
          subst hw''
          have stq := Lib.hid (hst.out.drewN nq)
          clear p0 p1 p2 p3 p4 p5 q0 q1 q2 q3 q4 q5 cS fS cX hst
          generalize wr.drewN nq = wq at stq ⊢
          have cS := stq.out.sh.cell (x := if k < k then chS p fr false true k else p.shifts.getD k 0) (partL_get (chS p fr _ _) p.shifts k k hlt)
          have fS := stq.out.sh.own.frozenAt k
          go_upto_region 8 with (fail)
          have st1 := Lib.hid (stq.out.putS k (x1))
          clear cS fS stq
          generalize wq.setCell ⟨g5, k, none⟩ (.int .i64 (x1)) = w1 at st1 ⊢
          obtain ⟨p0, p1, p2, p3, p4, p5⟩ := prog_cells st1.out.hB
          obtain ⟨q0, q1, q2, q3, q4, q5⟩ := prog_cells st1.out.hQ
          have cS := st1.out.sh.cell (x := x1) (set_get _ _ _ 0 (by simp only [List.length_set, partL_length]; omega))
          have fS := st1.out.sh.own.frozenAt k
          have cX := (st1.out.below.cell (p := ⟨la, lo + k2, none⟩) hla).trans cX2'.out
          refine wp_region_quiet_tail 20 (by kernel_rfl) (by kernel_rfl) ?_
          simp only [List.take_succ_cons, List.take_zero, List.drop_succ_cons, List.drop_zero]
          repeat (go_big_quiet_step (fail))
          refine wpQuiet_nil ?_
          intro _ hw'
          obtain ⟨nq, hw''⟩ := hw'
          subst hw''
          have stq := Lib.hid (st1.out.drewN nq)
          clear p0 p1 p2 p3 p4 p5 q0 q1 q2 q3 q4 q5 cS fS cX st1
          generalize w1.drewN nq = wq at stq ⊢
          have cS := stq.out.sh.cell (x := x1) (set_get _ _ _ 0 (by simp only [List.length_set, partL_length]; omega))
          have fS := stq.out.sh.own.frozenAt k
          go_upto_region 11 with (fail)
          have st2 := Lib.hid (stq.out.putS k ((p.ros.length : Int) - x2))
          clear cS fS stq
          generalize wq.setCell ⟨g5, k, none⟩ (.int .i64 ((p.ros.length : Int) - x2)) = w2 at st2 ⊢
          obtain ⟨p0, p1, p2, p3, p4, p5⟩ := prog_cells st2.out.hB
          obtain ⟨q0, q1, q2, q3, q4, q5⟩ := prog_cells st2.out.hQ
          have cS := st2.out.sh.cell (x := (p.ros.length : Int) - x2) (set_get _ _ _ 0 (by simp only [List.length_set, partL_length]; omega))
          have fS := st2.out.sh.own.frozenAt k
          have hcv : ((p.ros.length : Int) - x2).tmod (p.ros.length : Int) = z := by rw [Int.tmod_eq_emod_of_nonneg (by omega), hzz'.out]
          have wcv : IntKind.i64.wrap ((p.ros.length : Int) - x2) = (p.ros.length : Int) - x2 := IntWalk.i64_in _ (by omega)
          refine wp_region_quiet_tail 9 (by kernel_rfl) (by kernel_rfl) ?_
          simp only [List.take_succ_cons, List.take_zero, List.drop_succ_cons, List.drop_zero]
          repeat (go_big_quiet_step (fail))
          refine wpQuiet_nil ?_
          intro _ hw'
          obtain ⟨nq, hw''⟩ := hw'
          subst hw''
          have stq := Lib.hid (st2.out.drewN nq)
          clear p0 p1 p2 p3 p4 p5 q0 q1 q2 q3 q4 q5 cS fS st2
          generalize w2.drewN nq = wq at stq ⊢
          have cS := stq.out.sh.cell (x := (p.ros.length : Int) - x2) (set_get _ _ _ 0 (by simp only [List.length_set, partL_length]; omega))
          have fS := stq.out.sh.own.frozenAt k
          go_upto_region 12 with (fail)
          have st4 := Lib.hid (stq.out.putS k (z))
          clear cS fS stq
          generalize wq.setCell ⟨g5, k, none⟩ (.int .i64 (z)) = w4 at st4 ⊢
          have hfin : ∃ S, S = partL (chS p fr false true) p.shifts (k + 1) ∧ Hid (ChSt w #[.slice Aa p.ros.length c0, .slice Ab p.rub.length cb, .int .i64 p.start, .int .i64 p.throw, .int .i64 p.adv, .slice (some ⟨la, lo, none⟩) p.shifts.length ca] #[.slice none 0 0, .slice none 0 0, .int .i64 0, .int .i64 0, .int .i64 0, .slice none 0 0] #[.slice (some ⟨g0, 0, none⟩) p.ros.length d0, .slice (some ⟨g1, 0, none⟩) p.rub.length d1, .int .i64 p.start, .int .i64 p.throw, .int .i64 p.adv, .slice (some ⟨g5, 0, none⟩) p.shifts.length d5] Q l1 g1 d1 p.rub.length l5 g5 d5 p.shifts.length p.rub S w4) := ⟨_, by simp only [List.set_set]; rw [← hz'.out]; exact partL_set _ _ k hlt, st4⟩
          obtain ⟨S9, hS9, hst9⟩ := hfin
          subst hS9
          go_wp2
          go_roundw
          case rel => exact ⟨k + 1, by omega, by go_num, hst9⟩
          case measure => simp [intOf]; omega
        · have hzz : z = ((p.ros.length : Int) - ((p.ros.length : Int) - x2)) % (p.ros.length : Int) := hz0'.out
          have hzz' := Lib.hid hzz
          clear hzz
          obtain ⟨p0, p1, p2, p3, p4, p5⟩ := prog_cells hst.out.hB
          obtain ⟨q0, q1, q2, q3, q4, q5⟩ := prog_cells hst.out.hQ
          have cS := hst.out.sh.cell (partL_get (chS p fr _ _) p.shifts k k hlt)
          have fS := hst.out.sh.own.frozenAt k
          have cX := (hst.out.below.cell (p := ⟨la, lo + k1, none⟩) hla).trans cX1'.out
          go_upto_region 6 with (fail)
          refine wp_region_quiet_tail 12 (by kernel_rfl) (by kernel_rfl) ?_
          simp only [List.take_succ_cons, List.take_zero, List.drop_succ_cons, List.drop_zero]
          repeat (go_big_quiet_step (fail))
          refine wpQuiet_nil ?_
          intro _ hw'
          obtain ⟨nq, hw''⟩ := hw'
          subst hw''
          have stq := Lib.hid (hst.out.drewN nq)
          clear p0 p1 p2 p3 p4 p5 q0 q1 q2 q3 q4 q5 cS fS cX hst
          generalize wr.drewN nq = wq at stq ⊢
          have cS := stq.out.sh.cell (x := if k < k then chS p fr true true k else p.shifts.getD k 0) (partL_get (chS p fr _ _) p.shifts k k hlt)
          have fS := stq.out.sh.own.frozenAt k
          go_upto_region 8 with (fail)
          have st1 := Lib.hid (stq.out.putS k (x1))
          clear cS fS stq
          generalize wq.setCell ⟨g5, k, none⟩ (.int .i64 (x1)) = w1 at st1 ⊢
          obtain ⟨p0, p1, p2, p3, p4, p5⟩ := prog_cells st1.out.hB
          obtain ⟨q0, q1, q2, q3, q4, q5⟩ := prog_cells st1.out.hQ
          have cS := st1.out.sh.cell (x := x1) (set_get _ _ _ 0 (by simp only [List.length_set, partL_length]; omega))
          have fS := st1.out.sh.own.frozenAt k
          have cX := (st1.out.below.cell (p := ⟨la, lo + k2, none⟩) hla).trans cX2'.out
          refine wp_region_quiet_tail 20 (by kernel_rfl) (by kernel_rfl) ?_
          simp only [List.take_succ_cons, List.take_zero, List.drop_succ_cons, List.drop_zero]
          repeat (go_big_quiet_step (fail))
          refine wpQuiet_nil ?_
          intro _ hw'
          obtain ⟨nq, hw''⟩ := hw'
          subst hw''
          have stq := Lib.hid (st1.out.drewN nq)
          clear p0 p1 p2 p3 p4 p5 q0 q1 q2 q3 q4 q5 cS fS cX st1
          generalize w1.drewN nq = wq at stq ⊢
          have cS := stq.out.sh.cell (x := x1) (set_get _ _ _ 0 (by simp only [List.length_set, partL_length]; omega))
          have fS := stq.out.sh.own.frozenAt k
          go_upto_region 10 with (fail)
          have st2 := Lib.hid (stq.out.putS k ((p.ros.length : Int) - x2))
          clear cS fS stq
          generalize wq.setCell ⟨g5, k, none⟩ (.int .i64 ((p.ros.length : Int) - x2)) = w2 at st2 ⊢
          obtain ⟨p0, p1, p2, p3, p4, p5⟩ := prog_cells st2.out.hB
          obtain ⟨q0, q1, q2, q3, q4, q5⟩ := prog_cells st2.out.hQ
          have cS := st2.out.sh.cell (x := (p.ros.length : Int) - x2) (set_get _ _ _ 0 (by simp only [List.length_set, partL_length]; omega))
          have fS := st2.out.sh.own.frozenAt k
          refine wp_region_quiet_tail 12 (by kernel_rfl) (by kernel_rfl) ?_
          simp only [List.take_succ_cons, List.take_zero, List.drop_succ_cons, List.drop_zero]
          repeat (go_big_quiet_step (fail))
          refine wpQuiet_nil ?_
          intro _ hw'
          obtain ⟨nq, hw''⟩ := hw'
          subst hw''
          have stq := Lib.hid (st2.out.drewN nq)
          clear p0 p1 p2 p3 p4 p5 q0 q1 q2 q3 q4 q5 cS fS st2
          generalize w2.drewN nq = wq at stq ⊢
          have cS := stq.out.sh.cell (x := (p.ros.length : Int) - x2) (set_get _ _ _ 0 (by simp only [List.length_set, partL_length]; omega))
          have fS := stq.out.sh.own.frozenAt k
          go_upto_region 11 with (fail)
          have st3 := Lib.hid (stq.out.putS k ((p.ros.length : Int) - ((p.ros.length : Int) - x2)))
          clear cS fS stq
          generalize wq.setCell ⟨g5, k, none⟩ (.int .i64 ((p.ros.length : Int) - ((p.ros.length : Int) - x2))) = w3 at st3 ⊢
          obtain ⟨p0, p1, p2, p3, p4, p5⟩ := prog_cells st3.out.hB
          obtain ⟨q0, q1, q2, q3, q4, q5⟩ := prog_cells st3.out.hQ
          have cS := st3.out.sh.cell (x := (p.ros.length : Int) - ((p.ros.length : Int) - x2)) (set_get _ _ _ 0 (by simp only [List.length_set, partL_length]; omega))
          have fS := st3.out.sh.own.frozenAt k
          have hcv : ((p.ros.length : Int) - ((p.ros.length : Int) - x2)).tmod (p.ros.length : Int) = z := by rw [Int.tmod_eq_emod_of_nonneg (by omega), hzz'.out]
          have wcv : IntKind.i64.wrap ((p.ros.length : Int) - ((p.ros.length : Int) - x2)) = (p.ros.length : Int) - ((p.ros.length : Int) - x2) := IntWalk.i64_in _ (by omega)
          refine wp_region_quiet_tail 9 (by kernel_rfl) (by kernel_rfl) ?_
          simp only [List.take_succ_cons, List.take_zero, List.drop_succ_cons, List.drop_zero]
          repeat (go_big_quiet_step (fail))
          refine wpQuiet_nil ?_
          intro _ hw'
          obtain ⟨nq, hw''⟩ := hw'
          subst hw''
          have stq := Lib.hid (st3.out.drewN nq)
          clear p0 p1 p2 p3 p4 p5 q0 q1 q2 q3 q4 q5 cS fS st3
          generalize w3.drewN nq = wq at stq ⊢
          have cS := stq.out.sh.cell (x := (p.ros.length : Int) - ((p.ros.length : Int) - x2)) (set_get _ _ _ 0 (by simp only [List.length_set, partL_length]; omega))
          have fS := stq.out.sh.own.frozenAt k
          go_upto_region 12 with (fail)
          have st4 := Lib.hid (stq.out.putS k (z))
          clear cS fS stq
          generalize wq.setCell ⟨g5, k, none⟩ (.int .i64 (z)) = w4 at st4 ⊢
          have hfin : ∃ S, S = partL (chS p fr true true) p.shifts (k + 1) ∧ Hid (ChSt w #[.slice Aa p.ros.length c0, .slice Ab p.rub.length cb, .int .i64 p.start, .int .i64 p.throw, .int .i64 p.adv, .slice (some ⟨la, lo, none⟩) p.shifts.length ca] #[.slice none 0 0, .slice none 0 0, .int .i64 0, .int .i64 0, .int .i64 0, .slice none 0 0] #[.slice (some ⟨g0, 0, none⟩) p.ros.length d0, .slice (some ⟨g1, 0, none⟩) p.rub.length d1, .int .i64 p.start, .int .i64 p.throw, .int .i64 p.adv, .slice (some ⟨g5, 0, none⟩) p.shifts.length d5] Q l1 g1 d1 p.rub.length l5 g5 d5 p.shifts.length p.rub S w4) := ⟨_, by simp only [List.set_set]; rw [← hz'.out]; exact partL_set _ _ k hlt, st4⟩
          obtain ⟨S9, hS9, hst9⟩ := hfin
          subst hS9
          go_wp2
          go_roundw
          case rel => exact ⟨k + 1, by omega, by go_num, hst9⟩
          case measure => simp [intOf]; omega
    · obtain rfl : k = p.shifts.length := by omega
      have hst1 : Hid (ChSt w #[.slice Aa p.ros.length c0, .slice Ab p.rub.length cb, .int .i64 p.start, .int .i64 p.throw, .int .i64 p.adv, .slice (some ⟨la, lo, none⟩) p.shifts.length ca] #[.slice none 0 0, .slice none 0 0, .int .i64 0, .int .i64 0, .int .i64 0, .slice none 0 0] #[.slice (some ⟨g0, 0, none⟩) p.ros.length d0, .slice (some ⟨g1, 0, none⟩) p.rub.length d1, .int .i64 p.start, .int .i64 p.throw, .int .i64 p.adv, .slice (some ⟨g5, 0, none⟩) p.shifts.length d5] Q l1 g1 d1 p.rub.length l5 g5 d5 p.shifts.length p.rub ((List.range p.shifts.length).map (chS p fr mi ba)) wr) := by
        have h := hst
        rw [partL_all] at h
        exact h
      clear hst
      have kturn : ∀ W, Below w.heap.size w W → Calls Try.prog 87 #[.slice Aa p.ros.length c0, .int .i64 by_] W fun e w' => ∃ v', e = .returned (.tuple #[v', .int .i64 0]) ∧ Below W.heap.size W w' ∧ w'.ownsRow W.heap.size 3 1 v' p.ros.length ((chF p by_ false).map vint) := fun W h => pf_ros_Turned _ p.ros by_ W (i0'.out.below h) hbf'.out.ros (by omega)
      have kmir : ∀ W V, Ints W V (chF p by_ false) → Calls Try.prog 88 #[V] W fun e w' => ∃ v', e = .returned (.tuple #[v', .int .i64 0]) ∧ Below W.heap.size W w' ∧ w'.ownsRow W.heap.size 3 1 v' p.ros.length ((chF p by_ true).map vint) := fun W V h => by
        have h1 := pf_ros_Mirrored V _ W h (ch_ros hbf'.out by_ false)
        rw [chF_length] at h1
        exact h1
      have kturn' := Lib.hid kturn
      have kmir' := Lib.hid kmir
      clear kmir kturn
      obtain ⟨p0, p1, p2, p3, p4, p5⟩ := prog_cells hst1.out.hB
      cases mi with
      | false =>
        go_upto_region 21 with (first | (go_at_call 87; (with_reducible refine (kturn'.out _ hst1.out.below).mono ?_); rintro e w' ⟨v1, rfl, hb, ho⟩))
        have hst2 := Lib.hid (hst1.out.next hb)
        have hQw : Q < wr.heap.size := (Array.getElem?_eq_some_iff.1 hst1.out.hQ).1
        clear p0 p1 p2 p3 p4 p5 hb hst1
        obtain ⟨Av, cv, rfl⟩ := slice_formG ho
        have ho' := Lib.hid ho
        clear ho
        obtain ⟨q0, q1, q2, q3, q4, q5⟩ := prog_cells hst2.out.hQ
        have fq := frozen0 hst2.out.hQ 0
        obtain ⟨z0, z1, z2, z3, z4, z5⟩ := prog_cells hst2.out.hC
        have y0 := frozen0 hst2.out.hC 0
        have y1 := frozen0 hst2.out.hC 1
        have y2 := frozen0 hst2.out.hC 2
        have y3 := frozen0 hst2.out.hC 3
        have y4 := frozen0 hst2.out.hC 4
        have y5 := frozen0 hst2.out.hC 5
        have hQs := hst2.out.a3
        have hb4 := hst2.out.a4
        have hb1 := hst2.out.a1
        have hg1 := hst2.out.rub.lt
        have hg5 := hst2.out.sh.lt
        have hb2 := hst2.out.a2
        have hQB : ¬ Q = w.heap.size + 1 := by omega
        have hBQ : ¬ w.heap.size + 1 = Q := by omega
        go_wp2
        refine bodyPost_ret (v := .tuple #[.agg #[.slice Av p.ros.length cv, .slice (some ⟨g1, 0, none⟩) p.rub.length d1, .int .i64 p.start, .int .i64 p.throw, .int .i64 p.adv, .slice (some ⟨g5, 0, none⟩) p.shifts.length d5], .bool true]) (by simp [results, Try.results49, go_sem, z0, z1, z2, z3, z4, z5, q0, q1, q2, q3, q4, q5, hQB, hBQ]) rfl ⟨_, rfl, ?_, ?_⟩
        · iterate 6 refine Below.setCell ?_ (Nat.le_succ _) _
          exact hst2.out.below.setCell (p := ⟨Q, 0, none⟩) (by show w.heap.size ≤ Q; omega) _
        · intro W' hW'
          refine ⟨_, _, _, rfl, own_ints (base := wr.heap.size) (e := 3) (n := p.ros.length) (rowUp ?_ (by omega) hW'), Copy.ints (lo := l1) (copyUp ?_ (by omega) hW'), Copy.ints (lo := l5) (copyUp ?_ (by omega) hW')⟩
          · iterate 7 refine own_apart ?_ (by omega) _
            exact ho'.out
          · iterate 7 refine Copy.aside ?_ (by omega) _
            exact hst2.out.rub
          · iterate 7 refine Copy.aside ?_ (by omega) _
            exact hst2.out.sh
      | true =>
        go_upto_region 16 with (first | (go_at_call 87; (with_reducible refine (kturn'.out _ hst1.out.below).mono ?_); rintro e w' ⟨v1, rfl, hb, ho⟩; have hst2 := Lib.hid (hst1.out.next hb); have hv1 := Lib.hid (own_ints ho); clear hb ho hst1 p0 p1 p2 p3 p4 p5; obtain ⟨p0, p1, p2, p3, p4, p5⟩ := prog_cells hst2.out.hB) | (go_at_call 88; (with_reducible refine (kmir'.out _ _ hv1.out).mono ?_); rintro e w'' ⟨v2, rfl, hb, ho⟩))
        have hQw : Q < w'.heap.size := (Array.getElem?_eq_some_iff.1 hst2.out.hQ).1
        have hst3 := Lib.hid (hst2.out.next hb)
        clear p0 p1 p2 p3 p4 p5 hb hst2 hv1
        obtain ⟨MB, hMB⟩ : ∃ M, w'.heap.size = M := ⟨_, rfl⟩
        rw [hMB] at ho hQw
        clear hMB
        obtain ⟨Av, cv, rfl⟩ := slice_formG ho
        have ho' := Lib.hid ho
        clear ho
        obtain ⟨q0, q1, q2, q3, q4, q5⟩ := prog_cells hst3.out.hQ
        go_wp2
        clear q0 q1 q2 q3 q4 q5
        go_loopw [113] (fun i wr => ∃ k : Nat, k ≤ p.rub.length ∧ i = .int .i64 k ∧ Hid (ChSt w #[.slice Aa p.ros.length c0, .slice Ab p.rub.length cb, .int .i64 p.start, .int .i64 p.throw, .int .i64 p.adv, .slice (some ⟨la, lo, none⟩) p.shifts.length ca] #[.slice none 0 0, .slice none 0 0, .int .i64 0, .int .i64 0, .int .i64 0, .slice none 0 0] #[.slice (some ⟨g0, 0, none⟩) p.ros.length d0, .slice (some ⟨g1, 0, none⟩) p.rub.length d1, .int .i64 p.start, .int .i64 p.throw, .int .i64 p.adv, .slice (some ⟨g5, 0, none⟩) p.shifts.length d5] Q l1 g1 d1 p.rub.length l5 g5 d5 p.shifts.length (partL (fun i => p.rub.getD (p.rub.length - 1 - i) 0) p.rub k) ((List.range p.shifts.length).map (chS p fr true ba)) wr) ∧ Hid (wr.ownsRow MB 3 1 (.slice Av p.ros.length cv) p.ros.length ((chF p by_ true).map vint))) (fun i _ => p.rub.length - (intOf i).toNat)
        case atStart => exact ⟨0, Nat.zero_le _, rfl, by rw [partL_zero]; exact hst3, ho'⟩
        case round =>
          clear hst3 ho'
          obtain ⟨k, hk, rfl, hst, ho⟩ := hrel
          by_cases hlt : k < p.rub.length
          · have hst1 := hst
            obtain ⟨p0, p1, p2, p3, p4, p5⟩ := prog_cells hst.out.hB
            obtain ⟨q0, q1, q2, q3, q4, q5⟩ := prog_cells hst.out.hQ
            obtain ⟨ri, hri⟩ : ∃ x : Nat, p.rub.length - 1 - k = x := ⟨_, rfl⟩
            obtain ⟨lb, lob, cb2, heq, hlb, -, -, hcb⟩ := Ints.cells i1'.out (by omega)
            injection heq with a1 a2 a3
            subst a1 a3
            clear a2
            have cX : wr.cell? ⟨lb, lob + ri, none⟩ = some (.int .i64 (p.rub.getD ri 0)) := by
              have h1 := (hst.out.below.cell (p := ⟨lb, lob + ri, none⟩) hlb).trans (hcb ri (by omega))
              simpa [show ri < p.rub.length by omega] using h1
            have hset := partL_set (fun i => p.rub.getD (p.rub.length - 1 - i) 0) p.rub k hlt
            simp only [hri] at hset
            generalize p.rub.getD ri 0 = x at cX hset
            have ew1 : IntKind.i64.wrap ((p.rub.length : Int) - 1) = (p.rub.length : Int) - 1 := IntWalk.i64_in _ (by omega)
            have ew2 : IntKind.i64.wrap ((p.rub.length : Int) - 1 - (k : Int)) = (ri : Int) := by rw [IntWalk.i64_in _ (by omega)]; omega
            have i1 : (0 : Int) ≤ (k : Int) := by omega
            have i2 : (k : Int) < (p.rub.length : Int) := by omega
            have i3 : (0 : Int) ≤ (ri : Int) := by omega
            have i4 : (ri : Int) < (p.rub.length : Int) := by omega
            clear hcb
            have hset' := Lib.hid hset
            have hri' := Lib.hid hri
            clear hri hset
            go_upto_region 19 with (fail)
            refine wp_region_quiet_tail 13 (by kernel_rfl) (by kernel_rfl) ?_
            simp only [List.take_succ_cons, List.take_zero, List.drop_succ_cons, List.drop_zero]
            repeat (go_big_quiet_step (fail))
            refine wpQuiet_nil ?_
            intro _ hw'
            obtain ⟨nq, hw''⟩ := hw'
            subst hw''
            have stq := Lib.hid (hst.out.drewN nq)
            have hoq : Hid ((wr.drewN nq).ownsRow MB 3 1 (.slice Av p.ros.length cv) p.ros.length ((chF p by_ true).map vint)) := ho
            clear p0 p1 p2 p3 p4 p5 q0 q1 q2 q3 q4 q5 cX hst hst1 ho
            generalize wr.drewN nq = wq at stq hoq ⊢
            have cS := stq.out.rub.cell (partL_get (fun i => p.rub.getD (p.rub.length - 1 - i) 0) p.rub k k hlt)
            have fS := stq.out.rub.own.frozenAt k
            have hMg : g1 < MB := by
              have h1 := stq.out.a2
              have h2 := stq.out.sh.lt
              have h3 := stq.out.a3
              omega
            have st4 := Lib.hid (stq.out.putR k x)
            have ho4 := Lib.hid (own_apart hoq.out hMg (k := k) (.int .i64 x))
            go_upto_region 20 with (fail)
            clear cS fS stq hoq
            generalize wq.setCell ⟨g1, k, none⟩ (.int .i64 x) = w4 at st4 ho4 ⊢
            have st5 := st4
            rw [hset'.out] at st5
            clear st4
            go_wp2
            go_roundw
            case rel => exact ⟨k + 1, by omega, by go_num, st5, ho4⟩
            case measure => simp [intOf]; omega
          · obtain rfl : k = p.rub.length := by omega
            have hst2 : Hid (ChSt w #[.slice Aa p.ros.length c0, .slice Ab p.rub.length cb, .int .i64 p.start, .int .i64 p.throw, .int .i64 p.adv, .slice (some ⟨la, lo, none⟩) p.shifts.length ca] #[.slice none 0 0, .slice none 0 0, .int .i64 0, .int .i64 0, .int .i64 0, .slice none 0 0] #[.slice (some ⟨g0, 0, none⟩) p.ros.length d0, .slice (some ⟨g1, 0, none⟩) p.rub.length d1, .int .i64 p.start, .int .i64 p.throw, .int .i64 p.adv, .slice (some ⟨g5, 0, none⟩) p.shifts.length d5] Q l1 g1 d1 p.rub.length l5 g5 d5 p.shifts.length p.rub.reverse ((List.range p.shifts.length).map (chS p fr true ba)) wr) := by
              have h := hst
              rw [partL_all, rev_range] at h
              exact h
            clear hst
            obtain ⟨q0, q1, q2, q3, q4, q5⟩ := prog_cells hst2.out.hQ
            have fq := frozen0 hst2.out.hQ 0
            obtain ⟨z0, z1, z2, z3, z4, z5⟩ := prog_cells hst2.out.hC
            have y0 := frozen0 hst2.out.hC 0
            have y1 := frozen0 hst2.out.hC 1
            have y2 := frozen0 hst2.out.hC 2
            have y3 := frozen0 hst2.out.hC 3
            have y4 := frozen0 hst2.out.hC 4
            have y5 := frozen0 hst2.out.hC 5
            have hQs := hst2.out.a3
            have hb4 := hst2.out.a4
            have hb1 := hst2.out.a1
            have hg1 := hst2.out.rub.lt
            have hg5 := hst2.out.sh.lt
            have hb2 := hst2.out.a2
            have hQB : ¬ Q = w.heap.size + 1 := by omega
            have hBQ : ¬ w.heap.size + 1 = Q := by omega
            go_wp2
            refine bodyPost_ret (v := .tuple #[.agg #[.slice Av p.ros.length cv, .slice (some ⟨g1, 0, none⟩) p.rub.length d1, .int .i64 p.start, .int .i64 p.throw, .int .i64 p.adv, .slice (some ⟨g5, 0, none⟩) p.shifts.length d5], .bool true]) (by simp [results, Try.results49, go_sem, z0, z1, z2, z3, z4, z5, q0, q1, q2, q3, q4, q5, hQB, hBQ]) rfl ⟨_, rfl, ?_, ?_⟩
            · iterate 6 refine Below.setCell ?_ (Nat.le_succ _) _
              exact hst2.out.below.setCell (p := ⟨Q, 0, none⟩) (by show w.heap.size ≤ Q; omega) _
            · intro W' hW'
              refine ⟨_, _, _, rfl, own_ints (base := MB) (e := 3) (n := p.ros.length) (rowUp ?_ (by omega) hW'), Copy.ints (lo := l1) (copyUp ?_ (by omega) hW'), Copy.ints (lo := l5) (copyUp ?_ (by omega) hW')⟩
              · iterate 7 refine own_apart ?_ (by omega) _
                exact ho.out
              · iterate 7 refine Copy.aside ?_ (by omega) _
                exact hst2.out.rub
              · iterate 7 refine Copy.aside ?_ (by omega) _
                exact hst2.out.sh
end Go.Proofs.Ytnboppombhibbaa
