/- Contracts of package rosette: Turned, Mirrored; slices.Reverse. -/
import Derived.Test.YtnboppombhibbaaChangedLaw
import Derived.Test.YtnboppombhibbaaOffset
namespace Go.Proofs.Ytnboppombhibbaa
open Go.RowKit Go.Lib
set_option linter.unusedVariables false
set_option linter.unusedSimpArgs false
attribute [local go_sem] Oper.semAt_some
attribute [local go_sem ↓] Go.wp_at_zero Go.wp_at_succ
/-- A list, its first and last k turned over. -/
def revPart (f : List Int) (k : Nat) : List Int := (List.range f.length).map fun i => if i < k ∨ f.length - 1 - i < k then f.getD (f.length - 1 - i) 0 else f.getD i 0
theorem revPart_length (f : List Int) (k : Nat) : (revPart f k).length = f.length := by simp [revPart]
theorem revPart_get (f : List Int) (k i : Nat) (h : i < f.length) : (revPart f k)[i]? = some (if i < k ∨ f.length - 1 - i < k then f.getD (f.length - 1 - i) 0 else f.getD i 0) := by
  unfold revPart
  simp [h]
theorem revPart_zero (f : List Int) : revPart f 0 = f := by
  apply List.ext_getElem?
  intro i
  by_cases h : i < f.length
  · rw [revPart_get f 0 i h]
    simp [h]
  · rw [List.getElem?_eq_none (by rw [revPart_length]; omega), List.getElem?_eq_none (by omega)]
theorem revPart_step (f : List Int) (k : Nat) (h : k < f.length - 1 - k) : ((revPart f k).set k (f.getD (f.length - 1 - k) 0)).set (f.length - 1 - k) (f.getD k 0) = revPart f (k + 1) := by
  apply List.ext_getElem?
  intro i
  by_cases hi : i < f.length
  · rw [revPart_get f (k + 1) i hi, List.getElem?_set, List.getElem?_set]
    by_cases h1 : f.length - 1 - k = i
    · rw [if_pos h1, if_pos (by rw [List.length_set, revPart_length]; omega), if_pos (by omega)]
      rw [show f.length - 1 - i = k by omega]
    · rw [if_neg h1]
      by_cases h2 : k = i
      · rw [if_pos h2, if_pos (by rw [revPart_length]; omega), if_pos (by omega), h2]
      · rw [if_neg h2, revPart_get f k i hi]
        congr 1
        by_cases h3 : i < k ∨ f.length - 1 - i < k
        · rw [if_pos h3, if_pos (by omega)]
        · rw [if_neg h3, if_neg (by omega)]
  · rw [List.getElem?_eq_none (by rw [List.length_set, List.length_set, revPart_length]; omega), List.getElem?_eq_none (by rw [revPart_length]; omega)]
theorem revPart_end (f : List Int) (k : Nat) (h : ¬ k < f.length - 1 - k) : revPart f k = f.reverse := by
  apply List.ext_getElem?
  intro i
  by_cases hi : i < f.length
  · rw [revPart_get f k i hi, List.getElem?_reverse hi, List.getElem?_eq_getElem (show f.length - 1 - i < f.length by omega)]
    congr 1
    by_cases h3 : i < k ∨ f.length - 1 - i < k
    · rw [if_pos h3]
      simp [show f.length - 1 - i < f.length by omega]
    · rw [if_neg h3]
      have e : f.length - 1 - i = i := by omega
      simp [hi, e]
  · rw [List.getElem?_eq_none (by rw [revPart_length]; omega), List.getElem?_eq_none (by simp; omega)]
set_option maxRecDepth 100000 in
set_option maxHeartbeats 1000000 in
theorem pf_Reverse (g c base n : Nat) (f : List Int) (w : World) (hl : f.length = n) (h1 : 1 ≤ n) (h2 : n ≤ 1000) (hown : w.ownsRow base 3 1 (.slice (some ⟨g, 0, none⟩) n c) n (f.map vint)) (hg : base ≤ g) :
    Calls Try.prog 111 #[.slice (some ⟨g, 0, none⟩) n c] w fun e w' => e = .returned (.tuple #[]) ∧ Below base w w' ∧ w'.ownsRow base 3 1 (.slice (some ⟨g, 0, none⟩) n c) n (f.reverse.map vint) := by
  have h0 := revPart_zero f
  have w1 : IntKind.i64.wrap ((n : Int) - 1) = (n : Int) - 1 := IntWalk.i64_in _ (by omega)
  have hown0 : Hid (w.ownsRow base 3 1 (.slice (some ⟨g, 0, none⟩) n c) n ((revPart f 0).map vint)) := by rw [h0]; exact hown
  clear hown
  have hl' := Lib.hid hl
  have h0' := Lib.hid h0
  clear h0 hl
  go_enter Try.func111, Try.ntmps111
  go_wp2
  go_loopw [2, 3] (fun i j wr => ∃ k : Nat, k ≤ n ∧ i = .int .i64 k ∧ j = .int .i64 ((n : Int) - 1 - k) ∧ Hid (Below base w wr) ∧ Hid (wr.ownsRow base 3 1 (.slice (some ⟨g, 0, none⟩) n c) n ((revPart f k).map vint))) (fun i _ _ => n - (intOf i).toNat)
  case atStart => exact ⟨0, Nat.zero_le _, rfl, by simp, Lib.hid (Below.refl _ _), hown0⟩
  case round =>
    obtain ⟨k, hk, rfl, rfl, hbw, hown⟩ := hrel
    by_cases hlt : k < n - 1 - k
    · obtain ⟨m, hm⟩ : ∃ m : Nat, n - 1 - k = m := ⟨_, rfl⟩
      have hmI : (n : Int) - 1 - (k : Int) = (m : Int) := by omega
      rw [hmI]
      have hkm : (k : Int) < (m : Int) := by omega
      have hg1 := revPart_get f k k (by rw [hl'.out]; omega)
      have hg2 := revPart_get f k m (by rw [hl'.out]; omega)
      rw [hl'.out] at hg1 hg2
      rw [if_neg (by omega)] at hg1 hg2
      have hst := revPart_step f k (by rw [hl'.out]; omega)
      rw [hl'.out, hm] at hst
      have hpl := revPart_length f k
      rw [hl'.out] at hpl
      have c1 := own_cell hown.out hpl hg1
      have c2 := own_cell hown.out hpl hg2
      have f1 := hown.out.frozenAt k
      have f2 := hown.out.frozenAt m
      generalize f.getD k 0 = x at c1 hst hg1
      generalize f.getD m 0 = y at c2 hst hg2
      have hfin : Hid (((wr.setCell ⟨g, k, none⟩ (.int .i64 y)).setCell ⟨g, m, none⟩ (.int .i64 x)).drew.ownsRow base 3 1 (.slice (some ⟨g, 0, none⟩) n c) n ((revPart f (k + 1)).map vint)) := Lib.hid (by
        have a2 := own_put (own_put hown.out k y) m x
        rw [hst] at a2
        exact a2)
      have hbf : Hid (Below base w ((wr.setCell ⟨g, k, none⟩ (.int .i64 y)).setCell ⟨g, m, none⟩ (.int .i64 x)).drew) := Lib.hid (((hbw.out.setCell (p := ⟨g, k, none⟩) hg _).setCell (p := ⟨g, m, none⟩) hg _).drew)
      have w2 : IntKind.i64.wrap ((k : Int) + 1) = ((k + 1 : Nat) : Int) := by rw [IntWalk.i64_in _ (by omega)]; simp
      have w3 : IntKind.i64.wrap ((m : Int) - 1) = (m : Int) - 1 := IntWalk.i64_in _ (by omega)
      have i1 : (0 : Int) ≤ (k : Int) := by omega
      have i2 : (k : Int) < (n : Int) := by omega
      have i3 : (0 : Int) ≤ (m : Int) := by omega
      have i4 : (m : Int) < (n : Int) := by omega
      have hne : ¬ k = m := by omega
      have hne2 : ¬ m = k := by omega
      have hst' := Lib.hid hst
      have hpl' := Lib.hid hpl
      have hg1' := Lib.hid hg1
      have hg2' := Lib.hid hg2
      have hm' := Lib.hid hm
      have hmI' := Lib.hid hmI
      clear hmI hm hg2 hg1 hpl hst
      go_upto_region 3 with (fail)
      go_region
      clear c1 c2 f1 f2
      generalize ((wr.setCell ⟨g, k, none⟩ (.int .i64 y)).setCell ⟨g, m, none⟩ (.int .i64 x)).drew = w2 at hfin hbf ⊢
      go_wp2
      go_roundw
      case rel => exact ⟨k + 1, by omega, by go_num, by have := hmI'.out; show Value.int _ _ = _; congr 1; omega, hbf, hfin⟩
      case measure => simp [intOf]; omega
    · have hnlt : ¬ (k : Int) < (n : Int) - 1 - (k : Int) := by omega
      have he := revPart_end f k (by rw [hl'.out]; exact hlt)
      have ho := hown.out
      rw [he] at ho
      have he' := Lib.hid he
      have ho' := Lib.hid ho
      clear ho he
      go_wp2
      go_end0
      exact ⟨rfl, hbw.out, by have h := ho'.out; first | exact h | (rw [List.map_reverse] at h; exact h)⟩
set_option maxRecDepth 100000 in
set_option maxHeartbeats 1000000 in
theorem pf_mirrored (v : Value) (f : List Int) (w : World) (hv : Ints w v f) (h1 : 1 ≤ f.length) (h2 : f.length ≤ 1000) :
    Calls Try.prog 107 #[v] w fun e w' => ∃ v', e = .returned v' ∧ Below w.heap.size w w' ∧ w'.ownsRow w.heap.size 3 1 v' f.length ((mirL f).map vint) := by
  have hv0 := Lib.hid hv
  obtain ⟨A, c, rfl, hlc, hcm, _, hr⟩ := hv
  clear hr
  obtain ⟨m, hm⟩ : ∃ m : Nat, f.length - 1 = m := ⟨_, rfl⟩
  have w1 : IntKind.i64.wrap ((f.length : Int) - 1) = (m : Int) := by rw [IntWalk.i64_in _ (by omega)]; omega
  have ht := pf_turned _ f m w hv0.out (by omega) h2 (by omega)
  have htl := turnL_length f m
  have hmir : mirL f = (turnL f m).reverse := by unfold mirL; rw [hm]
  rw [hmir]
  rw [htl] at ht
  generalize turnL f m = T at ht htl
  have hm' := Lib.hid hm
  have ht' := Lib.hid ht
  have hmir' := Lib.hid hmir
  have htl' := Lib.hid htl
  clear htl hmir ht hm
  go_enter Try.func107, Try.ntmps107
  go_upto_region 2 with (first | (go_at_call 101; (with_reducible refine (ht'.out).mono ?_); rintro e w' ⟨v1, rfl, hb, ho⟩))
  have hnn : v1.ownBlock ≠ none := by
    rcases ho.2 with ⟨_, h3⟩ | ⟨g, cap, cur, rfl, _⟩
    · omega
    · simp [Value.ownBlock]
  obtain ⟨g, cg, rfl, hg1, hg2, hg3, hg4⟩ := own_formS ho hnn
  have hrev := pf_Reverse g cg w.heap.size f.length T w' htl'.out h1 h2 ho hg1
  have hrev' := Lib.hid hrev
  have hb' := Lib.hid hb
  clear hb hrev
  clear ho hnn
  go_wp2_with (first | (go_at_call 111; ((with_reducible refine (hrev'.out).mono ?_); rintro e w' ⟨rfl, hb2, ho2⟩)))
  go_ret
  exact ⟨_, rfl, hb'.out.trans hb2, by first | exact ho2 | (rw [List.map_reverse] at ho2; exact ho2)⟩
set_option maxRecDepth 100000 in
set_option maxHeartbeats 1000000 in
theorem pf_ros_Mirrored (v : Value) (f : List Int) (w : World) (hv : Ints w v f) (hok : rosOk f = true) :
    Calls Try.prog 88 #[v] w fun e w' => ∃ v', e = .returned (.tuple #[v', .int .i64 0]) ∧ Below w.heap.size w w' ∧ w'.ownsRow w.heap.size 3 1 v' f.length ((mirL f).map vint) := by
  obtain ⟨h1, h2, -⟩ := rosOk_iff.1 hok
  have hc := pf_ros_Check v f w hv true hok
  have hm := pf_mirrored v f w hv (by omega) (by omega)
  have hc' := Lib.hid hc
  have hm' := Lib.hid hm
  have hv' := Lib.hid hv
  have hok' := Lib.hid hok
  clear hok hv hm hc
  go_enter Try.func88, Try.ntmps88
  go_wp2_with (first | (go_at_call 60; ((with_reducible refine (hc'.out).mono ?_); rintro e w' ⟨rfl, rfl⟩)) | (go_at_call 107; ((with_reducible refine (hm'.out).mono ?_); rintro e w' ⟨v1, rfl, hb, ho⟩)))
  go_ret2
  exact ⟨_, rfl, hb, ho⟩
set_option maxRecDepth 100000 in
set_option maxHeartbeats 1000000 in
theorem pf_ros_Turned (v : Value) (f : List Int) (s : Nat) (w : World) (hv : Ints w v f) (hok : rosOk f = true) (hs : s ≤ 1000000) :
    Calls Try.prog 87 #[v, .int .i64 s] w fun e w' => ∃ v', e = .returned (.tuple #[v', .int .i64 0]) ∧ Below w.heap.size w w' ∧ w'.ownsRow w.heap.size 3 1 v' f.length ((turnL f (s % f.length)).map vint) := by
  obtain ⟨h1, h2, -⟩ := rosOk_iff.1 hok
  have hc := pf_ros_Check v f w hv true hok
  have hm := pf_turned v f (s % f.length) w hv (Nat.le_of_lt (Nat.mod_lt _ (by omega))) (by omega) (by omega)
  rw [turnL_length] at hm
  have ha : ∀ W, Calls Try.prog 106 #[.int .i64 s, .int .i64 f.length] W fun e w' => e = .returned (.int .i64 ((s % f.length : Nat) : Int)) ∧ W = w' := fun W => by
    have h := pf_ros_around s f.length W (by omega) (by omega) (by unfold Mid; omega)
    rwa [show (s : Int) % (f.length : Int) = ((s % f.length : Nat) : Int) from (Int.natCast_emod _ _).symm] at h
  obtain ⟨A, c, rfl, -⟩ := id hv
  obtain ⟨r, hr⟩ : ∃ r, s % f.length = r := ⟨_, rfl⟩
  rw [hr] at hm ha ⊢
  have hc' := Lib.hid hc
  have hm' := Lib.hid hm
  have hv' := Lib.hid hv
  have hok' := Lib.hid hok
  have ha' := Lib.hid ha
  have hr' := Lib.hid hr
  clear hr ha hok hv hm hc
  go_enter Try.func87, Try.ntmps87
  go_wp2_with (first | (go_at_call 60; ((with_reducible refine (hc'.out).mono ?_); rintro e w' ⟨rfl, rfl⟩)) | (go_at_call 106; ((with_reducible refine (ha'.out _).mono ?_); rintro e w' ⟨rfl, rfl⟩)) | (go_at_call 101; ((with_reducible refine (hm'.out).mono ?_); rintro e w' ⟨v1, rfl, hb, ho⟩)))
  go_ret2
  exact ⟨_, rfl, hb, ho⟩
end Go.Proofs.Ytnboppombhibbaa
