/- The reference of layer 3: Lifted, Moved, Least. The reference of layer 3: Lifted. -/
import Derived.Test.YtnboppombhibbaaRef3
import Derived.Test.YtnboppombhibbaaPerLaw
import Derived.Test.YtnboppombhibbaaMount
namespace Go.Proofs.Ytnboppombhibbaa
open Go.RowKit
set_option linter.unusedVariables false
set_option linter.unusedSimpArgs false
def refP (f b : List Int) (p k : Nat) : Int := (List.range k).foldl (fun a j => max a (pickX f b 1 liftM p j)) (atR f p)
theorem refP_zero (f b : List Int) (p : Nat) : refP f b p 0 = atR f p := rfl
theorem refP_succ (f b : List Int) (p k : Nat) : refP f b p (k + 1) = max (refP f b p k) (pickX f b 1 liftM p k) := by
  unfold refP; rw [List.range_succ, List.foldl_append]; rfl
theorem refP_ge (f b : List Int) (p : Nat) : ∀ k, atR f p ≤ refP f b p k ∧ ∀ j, j < k → pickX f b 1 liftM p j ≤ refP f b p k := by
  intro k
  induction k with
  | zero => exact ⟨by rw [refP_zero]; omega, fun j h => absurd h (by omega)⟩
  | succ k ih =>
    rw [refP_succ]
    refine ⟨by omega, fun j h => ?_⟩
    by_cases hj : j = k
    · subst hj; omega
    · have := ih.2 j (by omega); omega
theorem refP_mem (f b : List Int) (p : Nat) : ∀ k, refP f b p k = atR f p ∨ ∃ j, j < k ∧ refP f b p k = pickX f b 1 liftM p j := by
  intro k
  induction k with
  | zero => exact .inl rfl
  | succ k ih =>
    rw [refP_succ]
    by_cases h : refP f b p k ≤ pickX f b 1 liftM p k
    · exact .inr ⟨k, by omega, by omega⟩
    · rcases ih with h1 | ⟨j, hj, h1⟩
      · exact .inl (by omega)
      · exact .inr ⟨j, by omega, by omega⟩
theorem pickX_near {f b : List Int} (hf : rosOk f = true) (hb : rubOk b f.length = true) (p j : Nat) (hj : j < b.length) : -10000 ≤ pickX f b 1 liftM p j ∧ pickX f b 1 liftM p j ≤ 10000 := by
  obtain ⟨k1, k2, k3, k4, k5⟩ := rubOk_iff.1 hb
  have h4 := atR_height hf ((p : Int) + ((j : Int) - (b.length : Int) / 2))
  have h5 := k4 j hj
  rw [pickX_lift]
  simp [hj]
  omega
theorem refP_near {f b : List Int} (hf : rosOk f = true) (hb : rubOk b f.length = true) (p k : Nat) (hk : k ≤ b.length) : 0 ≤ refP f b p k ∧ refP f b p k ≤ 10000 := by
  have h1 := atR_height hf (p : Int)
  have h2 := (refP_ge f b p k).1
  rcases refP_mem f b p k with h | ⟨j, hj, h⟩
  · omega
  · have := pickX_near hf hb p j (by omega); omega
theorem refP_lift {f b : List Int} (hf : rosOk f = true) (hb : rubOk b f.length = true) (p : Nat) (hp : p < f.length) : refP f b p b.length = (liftL f b)[p]'(by rw [liftL_length]; exact hp) := by
  rw [liftL_getElem f b p hp]
  obtain ⟨k1, k2, k3, k4, k5⟩ := rubOk_iff.1 hb
  have hm := rub_mid hb
  have hX : pickX f b 1 liftM p (b.length / 2) = atR f p := by
    rw [pickX_lift, hm, show (p : Int) + (((b.length / 2 : Nat) : Int) - (b.length : Int) / 2) = (p : Int) from by omega]; omega
  obtain ⟨j, hj, he⟩ := pickN_mem b.length (pickX f b 1 liftM p) b.length (by omega)
  have h1 := (refP_ge f b p b.length).2 j hj
  have h2 : refP f b p b.length ≤ pickN b.length (pickX f b 1 liftM p) liftK b.length := by
    rcases refP_mem f b p b.length with h | ⟨i, hi, h⟩
    · rw [h, ← hX]; exact pickN_ge _ _ _ _ (by omega)
    · rw [h]; exact pickN_ge _ _ _ _ hi
  omega
theorem refL_lift {f b : List Int} (hf : rosOk f = true) (hb : rubOk b f.length = true) : (List.range f.length).map (fun p => refP f b p b.length) = liftL f b := by
  apply List.ext_getElem
  · simp [liftL_length]
  · intro p h1 h2
    rw [liftL_length] at h2
    rw [← refP_lift hf hb p h2]
    simp
set_option maxHeartbeats 1000000 in
theorem pf_Moved (v : Value) (f : List Int) (s : Int) (w : World) (hv : Ints w v f) (hl : f.length ≤ 1000) (hs : -1000000 ≤ s ∧ s ≤ 1000000) :
    Calls Try.prog 91 #[v, .int .i64 s] w fun e w' => ∃ v', e = .returned v' ∧ Below w.heap.size w w' ∧ w'.ownsRow w.heap.size 3 1 v' (movedL f s).length ((movedL f s).map vint) := by
  have hv0 := Lib.hid hv
  obtain ⟨A, c, rfl, hlc, hcm, _, hr⟩ := hv
  unfold maxLen at hcm
  clear hr
  go_enter Try.func91, Try.ntmps91
  go_wp2
  go_loopw [7, 5] (fun i r wr => ∃ k : Nat, k ≤ f.length ∧ i = .int .i64 k ∧ Below w.heap.size w wr ∧ Hid (wr.ownsRow w.heap.size 3 1 r ((List.range k).map fun (p : Nat) => atR f ((p : Int) - s)).length (((List.range k).map fun (p : Nat) => atR f ((p : Int) - s)).map vint))) (fun i _ _ => f.length - (intOf i).toNat)
  case atStart => exact ⟨0, by omega, rfl, Below.refl _ _, World.ownsRow_nil _ _ _ _⟩
  case round =>
    obtain ⟨k, hk, rfl, hbw, hown⟩ := hrel
    by_cases hlt : k < f.length
    · have hq0 := Int.emod_nonneg ((k : Int) - s) (show (f.length : Int) ≠ 0 by omega)
      have hq1 := Int.emod_lt_of_pos ((k : Int) - s) (show (0 : Int) < (f.length : Int) by omega)
      obtain ⟨q, hq⟩ : ∃ q : Nat, ((k : Int) - s) % (f.length : Int) = (q : Int) := ⟨_, (Int.toNat_of_nonneg hq0).symm⟩
      have hql : q < f.length := by omega
      obtain ⟨b, off, rfl, hbz, hck⟩ := (hv0.out.below hbw).look hql
      have hat : atR f ((k : Int) - s) = f[q] := by
        have : atR f ((k : Int) - s) = atR f (q : Int) := atR_mod _ _ _ (by rw [hq]; exact (Int.emod_eq_of_lt (by omega) (by omega)).symm)
        rw [this, atR_nat q hql]
      have hmap : (List.range (k + 1)).map (fun (p : Nat) => atR f ((p : Int) - s)) = (List.range k).map (fun (p : Nat) => atR f ((p : Int) - s)) ++ [f[q]] := by
        rw [List.range_succ, List.map_append, List.map_singleton, hat]
      have hmap' := Lib.hid hmap
      have hlen : ((List.range k).map fun (p : Nat) => atR f ((p : Int) - s)).length = k := by simp
      obtain ⟨t, ht⟩ : ∃ t, s.tmod (f.length : Int) = t := ⟨_, rfl⟩
      have ht0 : -1000 ≤ t ∧ t ≤ 1000 := by
        have h1 := Int.tmod_lt_of_pos s (show (0 : Int) < (f.length : Int) by omega)
        have h2 := Int.lt_tmod_of_pos s (show (0 : Int) < (f.length : Int) by omega)
        omega
      have hmod : ((k : Int) - t) % (f.length : Int) = (q : Int) := by
        have h1 := Int.tmod_add_mul_tdiv s (f.length : Int)
        rw [ht] at h1
        rw [← hq, show (k : Int) - t = ((k : Int) - s) + f.length * (s.tdiv f.length) from by omega, Int.add_mul_emod_self_left]
      have hmod' := Lib.hid hmod
      have hbz2 := hbw.size
      clear hmap hat hq hmod
      generalize (List.range k).map (fun (p : Nat) => atR f ((p : Int) - s)) = L at hown hmap' hlen
      generalize f[q] = x at hck hmap'
      go_wp2_with (first | (go_at_call 71; refine (pf_r3_Around _ _ _ (by omega) (by omega) (by unfold Mid; omega)).mono ?_; rintro e w' ⟨rfl, rfl⟩; rw [hmod'.out]) | (at_builtin; go_must (refine wpList_appI rfl _ _ 22 rfl w.heap.size 3 elemInt _ L rfl (hown.out.alloc _) _ [x] rfl (one_newI _ _ _) (by simp; omega) (by simp; omega) ?_)))
      intro v3 w3 h1 h2 _ _
      have h1' := Lib.hid h1
      clear h1
      have hB3 : Below w.heap.size w w3 := (hbw.alloc hbz2 _).trans h2
      clear h2
      go_wp2
      go_roundw
      case rel => exact ⟨k + 1, by omega, by go_num, hB3, by have h := h1'.out; rw [hmap'.out, List.length_append, List.map_append, hlen]; exact h⟩
      case measure => simp [intOf]; omega
    · obtain rfl : k = f.length := by omega
      go_wp2
      go_ret
      exact ⟨_, rfl, hbw, hown.out⟩
set_option maxHeartbeats 1000000 in
theorem pf_Least (v : Value) (f : List Int) (w : World) (hv : Ints w v f) (hl : f.length ≤ 1000) (hl0 : 0 < f.length) :
    Calls Try.prog 96 #[v] w fun e w' => e = .returned (.int .i64 (periodL f)) ∧ Below w.heap.size w w' := by
  have hv0 := Lib.hid hv
  obtain ⟨A, c, rfl, hlc, hcm, _, hr⟩ := hv
  unfold maxLen at hcm
  clear hr
  have hlast : Hid (movedL f f.length = f) := Lib.hid ((moved_iff _ _).2 (Shifts.len f))
  go_enter Try.func96, Try.ntmps96
  go_wp2
  go_loopw [3] (fun i wr => ∃ k : Nat, 1 ≤ k ∧ k ≤ f.length ∧ i = .int .i64 k ∧ Below w.heap.size w wr ∧ Hid (∀ j : Nat, 1 ≤ j → j < k → movedL f j ≠ f)) (fun i _ => f.length + 1 - (intOf i).toNat)
  case atStart => exact ⟨1, by omega, by omega, rfl, Below.refl _ _, Lib.hid fun j h1 h2 => absurd h1 (by omega)⟩
  case round =>
    obtain ⟨k, hk1, hk, rfl, hbw, hno⟩ := hrel
    obtain ⟨B, hB⟩ : ∃ B, (movedL f (k : Int) == f) = B := ⟨_, rfl⟩
    have hB' := Lib.hid hB
    clear hB
    have hvr := Lib.hid (hv0.out.below hbw)
    have hbz := hbw.size
    cases B with
    | true =>
      have hper : periodL f = k := IsLeast.period ⟨hk1, (moved_iff _ _).1 (beq_iff_eq.1 hB'.out), fun j h1 h2 h3 => hno.out j h1 h2 ((moved_iff _ _).2 h3)⟩ hl0
      have hper' := Lib.hid hper
      clear hper
      go_wp2_with (first | (go_at_call 91; refine (pf_Moved _ f _ _ hvr.out hl (by omega)).mono ?_; rintro e w1 ⟨v1, rfl, hb1, ho1⟩; have hI1 := Lib.hid (Arr.of_own ho1); have hB1 := hbw.trans (hb1.mono hbz); have hv1 := Lib.hid (hv0.out.below hB1); clear ho1 hb1) | (go_at_call 66; refine (pf_SameInts _ _ _ _ _ hI1.out hv1.out).mono ?_; rintro e w2 ⟨rfl, nd, rfl⟩; rw [hB'.out]))
      go_ret
      exact ⟨by rw [hper'.out]; rfl, below_drewN' hB1 nd⟩
    | false =>
      have hne : k < f.length := by
        rcases Nat.lt_or_ge k f.length with h | h
        · exact h
        · obtain rfl : k = f.length := by omega
          have := hB'.out
          rw [hlast.out] at this
          simp at this
      go_wp2_with (first | (go_at_call 91; refine (pf_Moved _ f _ _ hvr.out hl (by omega)).mono ?_; rintro e w1 ⟨v1, rfl, hb1, ho1⟩; have hI1 := Lib.hid (Arr.of_own ho1); have hB1 := hbw.trans (hb1.mono hbz); have hv1 := Lib.hid (hv0.out.below hB1); clear ho1 hb1) | (go_at_call 66; refine (pf_SameInts _ _ _ _ _ hI1.out hv1.out).mono ?_; rintro e w2 ⟨rfl, nd, rfl⟩; rw [hB'.out]))
      go_roundw
      case rel => exact ⟨k + 1, by omega, by omega, by go_num, below_drewN' hB1 nd, Lib.hid fun j h1 h2 => by
        by_cases hj : j = k
        · subst hj; exact beq_eq_false_iff_ne.1 hB'.out
        · exact hno.out j h1 (by omega)⟩
      case measure => simp [intOf]; omega
end Go.Proofs.Ytnboppombhibbaa
namespace Go.Proofs.Ytnboppombhibbaa
open Go.RowKit
set_option linter.unusedVariables false
set_option linter.unusedSimpArgs false
set_option maxRecDepth 100000 in
set_option maxHeartbeats 2000000 in
theorem pf_Lifted (vf vb : Value) (f b : List Int) (w : World) (hf : Ints w vf f) (hb : Ints w vb b) (hfo : rosOk f = true) (hbo : rubOk b f.length = true) :
    Calls Try.prog 89 #[vf, vb] w fun e w' => ∃ v', e = .returned v' ∧ Below w.heap.size w w' ∧ w'.ownsRow w.heap.size 3 1 v' (liftL f b).length ((liftL f b).map vint) := by
  have hf0 := Lib.hid hf
  have hb0 := Lib.hid hb
  have hlaw := Lib.hid (refL_lift hfo hbo)
  obtain ⟨l1, l2, _⟩ := rosOk_iff.1 hfo
  obtain ⟨k1, k2, k3, _, _⟩ := rubOk_iff.1 hbo
  have hfo' := Lib.hid hfo
  have hbo' := Lib.hid hbo
  obtain ⟨A, c, rfl, hlc, hcm, _, hr⟩ := hf
  obtain ⟨A', c', rfl, hlc', hcm', _, hr'⟩ := hb
  unfold maxLen at hcm hcm'
  clear hr hr' hfo hbo
  obtain ⟨h, hh⟩ : ∃ h : Nat, b.length = 2 * h + 1 := ⟨b.length / 2, by omega⟩
  have hw0 : (b.length : Int).tdiv 2 = (h : Int) := by rw [Int.tdiv_eq_ediv_of_nonneg (by omega)]; omega
  have hw0' : (b.length : Int) / 2 = (h : Int) := by omega
  have hh' := Lib.hid hh
  clear hh
  go_enter Try.func89, Try.ntmps89
  go_wp2
  go_loopw [8, 7] (fun i r wr => ∃ p : Nat, p ≤ f.length ∧ i = .int .i64 p ∧ Below w.heap.size w wr ∧ Hid (wr.ownsRow w.heap.size 3 1 r ((List.range p).map fun (p : Nat) => refP f b p b.length).length (((List.range p).map fun (p : Nat) => refP f b p b.length).map vint))) (fun i _ _ => f.length - (intOf i).toNat)
  case atStart => exact ⟨0, by omega, rfl, Below.refl _ _, World.ownsRow_nil _ _ _ _⟩
  case round =>
    obtain ⟨p, hp, rfl, hbw, hown⟩ := hrel
    by_cases hlt : p < f.length
    · obtain ⟨fb, foff, hA, hfz, hck⟩ := (hf0.out.below hbw).look hlt
      subst hA
      rw [← atR_nat p hlt] at hck
      have hck' := hck
      generalize hx0 : atR f (p : Int) = x0 at hck
      have hx0' := Lib.hid hx0
      clear hck' hx0
      go_wp2
      rename World => w0
      go_loopw [10, 9] (fun j m wi => ∃ k : Nat, k ≤ b.length ∧ j = .int .i64 ((k : Int) - h) ∧ m = .int .i64 (refP f b p k) ∧ Hid (∃ n, wi = w0.drewN n)) (fun j _ _ => b.length - (intOf j + h).toNat)
      case atStart => exact ⟨0, by omega, by simp, by rw [refP_zero, hx0'.out], Lib.hid ⟨0, rfl⟩⟩
      case round =>
        obtain ⟨k, hk, rfl, rfl, hdr⟩ := hrel
        obtain ⟨nd, hnd⟩ := hdr.out
        have hbi : Below w.heap.size w wr := by rw [hnd]; exact below_drewN' hbw nd
        have hlen := hh'.out
        have hnd' := Lib.hid hnd
        clear hnd
        by_cases hkl : k < b.length
        · have hle : (k : Int) - h ≤ h := by omega
          have hhn : h ≤ 31 := by omega
          have hkn : k ≤ 31 := by omega
          clear hlen
          obtain ⟨bb, boff, hA, hbz, hbk⟩ := (hb0.out.below hbi).look hkl
          subst hA
          have hq0 := Int.emod_nonneg ((p : Int) + ((k : Int) - h)) (show (f.length : Int) ≠ 0 by omega)
          have hq1 := Int.emod_lt_of_pos ((p : Int) + ((k : Int) - h)) (show (0 : Int) < (f.length : Int) by omega)
          obtain ⟨q, hq⟩ : ∃ q : Nat, ((p : Int) + ((k : Int) - h)) % (f.length : Int) = (q : Int) := ⟨_, (Int.toNat_of_nonneg hq0).symm⟩
          have hql : q < f.length := by omega
          obtain ⟨fb2, foff2, hA2, hfz2, hfq⟩ := (hf0.out.below hbi).look hql
          injection hA2 with hA2
          injection hA2 with e1 e2
          subst e1 e2
          have hX : pickX f b 1 liftM p k = f[q] - b[k] := by
            rw [pickX_lift, hw0']
            have h1 : atR f ((p : Int) + ((k : Int) - h)) = atR f (q : Int) := atR_mod _ _ _ (by rw [hq]; exact (Int.emod_eq_of_lt (by omega) (by omega)).symm)
            rw [h1, atR_nat q hql]
            simp [hkl]
          have hs := refP_succ f b p k
          rw [hX] at hs
          have hs' := Lib.hid hs
          have hn0 := refP_near hfo'.out hbo'.out p k (by omega)
          have hfq0 := (rosOk_iff.1 hfo'.out).2.2 q hql
          have hbk0 := (rubOk_iff.1 hbo'.out).2.2.2.1 k hkl
          have hcall : ∀ W : World, Calls Try.prog 71 #[.int .i64 ((p : Int) + ((k : Int) - h)), .int .i64 f.length] W fun e w' => e = .returned (.int .i64 q) ∧ W = w' := fun W => by
            have h := pf_r3_Around ((p : Int) + ((k : Int) - h)) f.length W (by omega) (by omega) (by unfold Mid; omega)
            rw [hq] at h
            exact h
          have hcall' := Lib.hid hcall
          clear hs hX hq hcall
          generalize hm : refP f b p k = m at hn0 hs'
          generalize f[q] = x at hfq hfq0 hs'
          generalize b[k] = y at hbk hbk0 hs'
          have hkh : (h : Int) + ((k : Int) - h) = k := by omega
          have i1 : IntKind.i64.wrap ((p : Int) + ((k : Int) - h)) = (p : Int) + ((k : Int) - h) := IntWalk.i64_in _ (by omega)
          have i2 : IntKind.i64.wrap ((h : Int) + ((k : Int) - h)) = (k : Int) := by rw [hkh]; exact IntWalk.i64_in _ (by omega)
          have i3 : IntKind.i64.wrap (x - y) = x - y := IntWalk.i64_in _ (by omega)
          have i4 : (0 : Int) ≤ (q : Int) := by omega
          have i5 : (q : Int) < (f.length : Int) := by omega
          have i6 : (0 : Int) ≤ (k : Int) := by omega
          have i7 : (k : Int) < (b.length : Int) := by omega
          by_cases hmx : m ≤ x - y
          · have hms : refP f b p (k + 1) = x - y := by rw [hs'.out]; omega
            have hms' := Lib.hid hms
            clear hms hm
            go_wp2
            go_quiet (first | (go_at_call 71; exact quiet_same' (hcall'.out _)))
            go_wp2
            go_roundw
            case rel => exact ⟨k + 1, by omega, by go_num, by rw [hms'.out]; show Value.int _ _ = _; congr 1; split <;> omega, Lib.hid ⟨_, by rw [hnd'.out]; exact World.drewN_drewN _ _ _⟩⟩
            case measure => simp [intOf]; omega
          · have hms : refP f b p (k + 1) = m := by rw [hs'.out]; omega
            have hms' := Lib.hid hms
            clear hms hm
            go_wp2
            go_quiet (first | (go_at_call 71; exact quiet_same' (hcall'.out _)))
            go_wp2
            go_roundw
            case rel => exact ⟨k + 1, by omega, by go_num, by rw [hms'.out]; show Value.int _ _ = _; congr 1; split <;> omega, Lib.hid ⟨_, by rw [hnd'.out]; exact World.drewN_drewN _ _ _⟩⟩
            case measure => simp [intOf]; omega
        · obtain rfl : k = b.length := by omega
          have hle : ¬ ((b.length : Int) - h ≤ h) := by omega
          clear hlen
          have hownd0 := (show (w0.drewN nd).ownsRow _ _ _ _ _ _ from hown.out)
          rw [← hnd'.out] at hownd0
          have hownd := Lib.hid hownd0
          clear hownd0
          have hbd := hbi
          have hbz2 := hbd.size
          have hmap : (List.range (p + 1)).map (fun (p : Nat) => refP f b p b.length) = (List.range p).map (fun (p : Nat) => refP f b p b.length) ++ [refP f b p b.length] := by
            rw [List.range_succ, List.map_append, List.map_singleton]
          have hmap' := Lib.hid hmap
          have hlenp : ((List.range p).map fun (p : Nat) => refP f b p b.length).length = p := by simp
          clear hmap hown hbw hck hdr hnd'
          generalize (List.range p).map (fun (p : Nat) => refP f b p b.length) = L at hownd hmap' hlenp
          generalize refP f b p b.length = m at hmap' ⊢
          go_wp2_with (first | (at_builtin; go_must (refine wpList_appI rfl _ _ 22 rfl w.heap.size 3 elemInt _ L rfl (hownd.out.alloc _) _ [m] rfl (one_newI _ _ _) (by simp; omega) (by simp; omega) ?_)))
          intro v3 w3 h1 h2 _ _
          have h1' := Lib.hid h1
          clear h1
          have hB3 : Below w.heap.size w w3 := (hbd.alloc hbz2 _).trans h2
          clear h2
          go_wp2
          go_roundw
          case rel => exact ⟨p + 1, by omega, by go_num, hB3, by have h := h1'.out; rw [hmap'.out, List.length_append, List.map_append, hlenp]; exact h⟩
          case measure => simp [intOf]; omega
    · obtain rfl : p = f.length := by omega
      go_wp2
      go_ret
      exact ⟨_, rfl, hbw, by rw [← hlaw.out]; exact hown.out⟩
end Go.Proofs.Ytnboppombhibbaa
