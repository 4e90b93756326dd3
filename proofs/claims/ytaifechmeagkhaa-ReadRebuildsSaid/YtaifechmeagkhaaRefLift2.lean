/- The reference of layer 3: Lifted. -/
import Derived.Test.YtaifechmeagkhaaRefLift
namespace Go.Proofs.Ytaifechmeagkhaa
open Go.RowKit
set_option linter.unusedVariables false
set_option linter.unusedSimpArgs false
set_option maxRecDepth 100000 in
set_option maxHeartbeats 2000000 in
theorem pf_Lifted (vf vb : Value) (f b : List Int) (w : World) (hf : Ints w vf f) (hb : Ints w vb b) (hfo : rosOk f = true) (hbo : rubOk b f.length = true) :
    Calls Try.prog 14 #[vf, vb] w fun e w' => ∃ v', e = .returned v' ∧ Below w.heap.size w w' ∧ w'.ownsRow w.heap.size 3 1 v' (liftL f b).length ((liftL f b).map vint) := by
  have hf0 := Lib.hid hf
  have hb0 := Lib.hid hb
  have hlaw := Lib.hid (refL_lift hfo hbo)
  obtain ⟨l1, l2, _⟩ := rosOk_iff.1 hfo
  obtain ⟨k1, k2, k3, _, _⟩ := rubOk_iff.1 hbo
  have hfo' := Lib.hid hfo
  have hbo' := Lib.hid hbo
  obtain ⟨A, c, rfl, hlc, hcm, _, hr⟩ := hf
  obtain ⟨A', c', rfl, hlc', hcm', _, hr'⟩ := hb
  unfold maxLen at hcm hcm'
  clear hr hr' hfo hbo
  obtain ⟨h, hh⟩ : ∃ h : Nat, b.length = 2 * h + 1 := ⟨b.length / 2, by omega⟩
  have hw0 : (b.length : Int).tdiv 2 = (h : Int) := by rw [Int.tdiv_eq_ediv_of_nonneg (by omega)]; omega
  have hw0' : (b.length : Int) / 2 = (h : Int) := by omega
  have hh' := Lib.hid hh
  clear hh
  go_enter Try.func14, Try.ntmps14
  go_wp2
  go_loopw [8, 7] (fun i r wr => ∃ p : Nat, p ≤ f.length ∧ i = .int .i64 p ∧ Below w.heap.size w wr ∧ Hid (wr.ownsRow w.heap.size 3 1 r ((List.range p).map fun (p : Nat) => refP f b p b.length).length (((List.range p).map fun (p : Nat) => refP f b p b.length).map vint))) (fun i _ _ => f.length - (intOf i).toNat)
  case atStart => exact ⟨0, by omega, rfl, Below.refl _ _, World.ownsRow_nil _ _ _ _⟩
  case round =>
    obtain ⟨p, hp, rfl, hbw, hown⟩ := hrel
    by_cases hlt : p < f.length
    · obtain ⟨fb, foff, hA, hfz, hck⟩ := (hf0.out.below hbw).look hlt
      subst hA
      rw [← atR_nat p hlt] at hck
      have hck' := hck
      generalize hx0 : atR f (p : Int) = x0 at hck
      have hx0' := Lib.hid hx0
      clear hck' hx0
      go_wp2
      rename World => w0
      go_loopw [10, 9] (fun j m wi => ∃ k : Nat, k ≤ b.length ∧ j = .int .i64 ((k : Int) - h) ∧ m = .int .i64 (refP f b p k) ∧ Hid (∃ n, wi = w0.drewN n)) (fun j _ _ => b.length - (intOf j + h).toNat)
      case atStart => exact ⟨0, by omega, by simp, by rw [refP_zero, hx0'.out], Lib.hid ⟨0, rfl⟩⟩
      case round =>
        obtain ⟨k, hk, rfl, rfl, hdr⟩ := hrel
        obtain ⟨nd, hnd⟩ := hdr.out
        have hbi : Below w.heap.size w wr := by rw [hnd]; exact below_drewN' hbw nd
        have hlen := hh'.out
        have hnd' := Lib.hid hnd
        clear hnd
        by_cases hkl : k < b.length
        · have hle : (k : Int) - h ≤ h := by omega
          have hhn : h ≤ 31 := by omega
          have hkn : k ≤ 31 := by omega
          clear hlen
          obtain ⟨bb, boff, hA, hbz, hbk⟩ := (hb0.out.below hbi).look hkl
          subst hA
          have hq0 := Int.emod_nonneg ((p : Int) + ((k : Int) - h)) (show (f.length : Int) ≠ 0 by omega)
          have hq1 := Int.emod_lt_of_pos ((p : Int) + ((k : Int) - h)) (show (0 : Int) < (f.length : Int) by omega)
          obtain ⟨q, hq⟩ : ∃ q : Nat, ((p : Int) + ((k : Int) - h)) % (f.length : Int) = (q : Int) := ⟨_, (Int.toNat_of_nonneg hq0).symm⟩
          have hql : q < f.length := by omega
          obtain ⟨fb2, foff2, hA2, hfz2, hfq⟩ := (hf0.out.below hbi).look hql
          injection hA2 with hA2
          injection hA2 with e1 e2
          subst e1 e2
          have hX : pickX f b 1 liftM p k = f[q] - b[k] := by
            rw [pickX_lift, hw0']
            have h1 : atR f ((p : Int) + ((k : Int) - h)) = atR f (q : Int) := atR_mod _ _ _ (by rw [hq]; exact (Int.emod_eq_of_lt (by omega) (by omega)).symm)
            rw [h1, atR_nat q hql]
            simp [hkl]
          have hs := refP_succ f b p k
          rw [hX] at hs
          have hs' := Lib.hid hs
          have hn0 := refP_near hfo'.out hbo'.out p k (by omega)
          have hfq0 := (rosOk_iff.1 hfo'.out).2.2 q hql
          have hbk0 := (rubOk_iff.1 hbo'.out).2.2.2.1 k hkl
          have hcall : ∀ W : World, Calls Try.prog 23 #[.int .i64 ((p : Int) + ((k : Int) - h)), .int .i64 f.length] W fun e w' => e = .returned (.int .i64 q) ∧ W = w' := fun W => by
            have h := pf_r3_Around ((p : Int) + ((k : Int) - h)) f.length W (by omega) (by omega) (by unfold Mid; omega)
            rw [hq] at h
            exact h
          have hcall' := Lib.hid hcall
          clear hs hX hq hcall
          generalize hm : refP f b p k = m at hn0 hs'
          generalize f[q] = x at hfq hfq0 hs'
          generalize b[k] = y at hbk hbk0 hs'
          have hkh : (h : Int) + ((k : Int) - h) = k := by omega
          have i1 : IntKind.i64.wrap ((p : Int) + ((k : Int) - h)) = (p : Int) + ((k : Int) - h) := IntWalk.i64_in _ (by omega)
          have i2 : IntKind.i64.wrap ((h : Int) + ((k : Int) - h)) = (k : Int) := by rw [hkh]; exact IntWalk.i64_in _ (by omega)
          have i3 : IntKind.i64.wrap (x - y) = x - y := IntWalk.i64_in _ (by omega)
          have i4 : (0 : Int) ≤ (q : Int) := by omega
          have i5 : (q : Int) < (f.length : Int) := by omega
          have i6 : (0 : Int) ≤ (k : Int) := by omega
          have i7 : (k : Int) < (b.length : Int) := by omega
          by_cases hmx : m ≤ x - y
          · have hms : refP f b p (k + 1) = x - y := by rw [hs'.out]; omega
            have hms' := Lib.hid hms
            clear hms hm
            go_wp2
            go_quiet (first | (go_at_call 23; exact quiet_same' (hcall'.out _)))
            go_wp2
            go_roundw
            case rel => exact ⟨k + 1, by omega, by go_num, by rw [hms'.out]; show Value.int _ _ = _; congr 1; split <;> omega, Lib.hid ⟨_, by rw [hnd'.out]; exact World.drewN_drewN _ _ _⟩⟩
            case measure => simp [intOf]; omega
          · have hms : refP f b p (k + 1) = m := by rw [hs'.out]; omega
            have hms' := Lib.hid hms
            clear hms hm
            go_wp2
            go_quiet (first | (go_at_call 23; exact quiet_same' (hcall'.out _)))
            go_wp2
            go_roundw
            case rel => exact ⟨k + 1, by omega, by go_num, by rw [hms'.out]; show Value.int _ _ = _; congr 1; split <;> omega, Lib.hid ⟨_, by rw [hnd'.out]; exact World.drewN_drewN _ _ _⟩⟩
            case measure => simp [intOf]; omega
        · obtain rfl : k = b.length := by omega
          have hle : ¬ ((b.length : Int) - h ≤ h) := by omega
          clear hlen
          have hownd0 := (show (w0.drewN nd).ownsRow _ _ _ _ _ _ from hown.out)
          rw [← hnd'.out] at hownd0
          have hownd := Lib.hid hownd0
          clear hownd0
          have hbd := hbi
          have hbz2 := hbd.size
          have hmap : (List.range (p + 1)).map (fun (p : Nat) => refP f b p b.length) = (List.range p).map (fun (p : Nat) => refP f b p b.length) ++ [refP f b p b.length] := by
            rw [List.range_succ, List.map_append, List.map_singleton]
          have hmap' := Lib.hid hmap
          have hlenp : ((List.range p).map fun (p : Nat) => refP f b p b.length).length = p := by simp
          clear hmap hown hbw hck hdr hnd'
          generalize (List.range p).map (fun (p : Nat) => refP f b p b.length) = L at hownd hmap' hlenp
          generalize refP f b p b.length = m at hmap' ⊢
          go_wp2_with (first | (at_builtin; go_must (refine wpList_appI rfl _ _ 22 rfl w.heap.size 3 elemInt _ L rfl (hownd.out.alloc _) _ [m] rfl (one_newI _ _ _) (by simp; omega) (by simp; omega) ?_)))
          intro v3 w3 h1 h2 _ _
          have h1' := Lib.hid h1
          clear h1
          have hB3 : Below w.heap.size w w3 := (hbd.alloc hbz2 _).trans h2
          clear h2
          go_wp2
          go_roundw
          case rel => exact ⟨p + 1, by omega, by go_num, hB3, by have h := h1'.out; rw [hmap'.out, List.length_append, List.map_append, hlenp]; exact h⟩
          case measure => simp [intOf]; omega
    · obtain rfl : p = f.length := by omega
      go_wp2
      go_ret
      exact ⟨_, rfl, hbw, by rw [← hlaw.out]; exact hown.out⟩
end Go.Proofs.Ytaifechmeagkhaa
