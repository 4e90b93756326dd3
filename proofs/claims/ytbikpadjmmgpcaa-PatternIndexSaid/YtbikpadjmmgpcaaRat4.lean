/- exact: fractions: opposite, minus, number. exact: fractions: number. exact: whole numbers that are arguments: isWhole. slices.IndexFunc, slices.ContainsFunc over groups. exact: must; in, of a fraction that is valid. exact: run at int: the deferred closure, a call that returns, a call that reports an error. exact: in, of a fraction that is not valid: the groups. -/
import Derived.Test.YtbikpadjmmgpcaaRat3
import Derived.Defers
import Derived.Recover
namespace Go.Proofs.Ytbikpadjmmgpcaa
open Go.RowKit Go.Shelf
set_option linter.unusedVariables false
set_option linter.unusedSimpArgs false
set_option maxRecDepth 100000 in
set_option maxHeartbeats 1000000 in
theorem pf_ropposite (L : Nat → Prop) (r : Rat) (v : Value) (w : World) (h : RatL L .u32 w v r) :
    Calls Try.prog 54 #[v] w fun e w' => ∃ v', e = .returned v' ∧ Le w w' ∧ RatL L .u32 w' v' (-r) := by
  obtain ⟨A1, c1, A2, c2, rfl, h1, h2⟩ := h.form
  obtain ⟨n1, n2, n3⟩ := neg_rat r
  obtain ⟨sr, hsr⟩ : ∃ sr, rneg r = sr := ⟨_, rfl⟩
  rw [hsr] at n1 ⊢
  obtain ⟨l1, hl1⟩ : ∃ l1, (dg (rnum r)).length = l1 := ⟨_, rfl⟩
  obtain ⟨l2, hl2⟩ : ∃ l2, (dg r.den).length = l2 := ⟨_, rfl⟩
  have hz : decide (0 < rnum r) = decide (0 < l1) := by rw [← hl1]; exact decide_eq_decide.2 (show 0 < rnum r ↔ 0 < (dg (rnum r)).length by rw [dg_length_pos]; omega)
  rw [hz] at n1
  rw [hl1] at h1
  rw [hl2] at h2
  rw [hl1, hl2]
  have hR : ∀ s o0 o1, rneg (-r) = s → (∃ v', Ending.returned (.agg #[.bool s, .slice A1 l1 c1, .slice A2 l2 c2]) = .returned v' ∧ Le w ((w.alloc o0).alloc o1) ∧ RatL L .u32 ((w.alloc o0).alloc o1) v' (-r)) := fun s o0 o1 hs => by
    have hw := (le_alloc w o0).trans (le_alloc _ o1)
    exact ⟨_, rfl, hw, _, _, by rw [hs], by rw [n2]; exact h1.le hw, by rw [n3]; exact h2.le hw⟩
  have h' := Lib.hid h
  have h1' := Lib.hid h1
  have h2' := Lib.hid h2
  have hR' := Lib.hid hR
  have hsr' := Lib.hid hsr
  have n1' := Lib.hid n1
  have n2' := Lib.hid n2
  have n3' := Lib.hid n3
  have hl1' := Lib.hid hl1
  have hl2' := Lib.hid hl2
  have hz' := Lib.hid hz
  clear hz hl2 hl1 n3 n2 n1 hsr hR h2 h1 h
  by_cases h0 : 0 < l1
  · have h4 : 0 < (l1 : Int) := by omega
    cases sr
    · go_enter Try.func54, Try.ntmps54
      go_wp2
      exact bodyPost_ret (v := .agg #[.bool true, .slice A1 l1 c1, .slice A2 l2 c2]) (by simp [results, Try.results54, go_sem]) rfl (hR'.out _ _ _ (by rw [n1'.out]; simp; omega))
    · go_enter Try.func54, Try.ntmps54
      go_wp2
      exact bodyPost_ret (v := .agg #[.bool false, .slice A1 l1 c1, .slice A2 l2 c2]) (by simp [results, Try.results54, go_sem]) rfl (hR'.out _ _ _ (by rw [n1'.out]; simp))
  · have h4 : ¬ 0 < (l1 : Int) := by omega
    cases sr
    · go_enter Try.func54, Try.ntmps54
      go_wp2
      exact bodyPost_ret (v := .agg #[.bool false, .slice A1 l1 c1, .slice A2 l2 c2]) (by simp [results, Try.results54, go_sem]) rfl (hR'.out _ _ _ (by rw [n1'.out]; simp; omega))
    · go_enter Try.func54, Try.ntmps54
      go_wp2
      exact bodyPost_ret (v := .agg #[.bool false, .slice A1 l1 c1, .slice A2 l2 c2]) (by simp [results, Try.results54, go_sem]) rfl (hR'.out _ _ _ (by rw [n1'.out]; simp))
set_option maxRecDepth 100000 in
set_option maxHeartbeats 2000000 in
theorem pf_rminus (L : Nat → Prop) (a b : Rat) (va vb : Value) (w : World) (hL : Up w L) (ha : RatL L .u32 w va a) (hb : RatL L .u32 w vb b) (hma : Rsz a 2000000) (hmb : Rsz b 2000000) :
    Calls Try.prog 30 #[va, vb] w fun e w' => ∃ v', e = .returned v' ∧ Le w w' ∧ RatL L .u32 w' v' (a - b) := by
  have ha0 := ha
  have hb0 := hb
  have hmn : Rsz (-b) 2000000 := by obtain ⟨q1, q2, q3⟩ := neg_rat b; unfold Rsz; rw [q2, q3]; exact hmb
  have hsub : a + -b = a - b := (Rat.sub_eq_add_neg a b).symm
  obtain ⟨An, cn, Ad, cd, rfl, han, had⟩ := ha.form
  obtain ⟨Bn, dn, Bd, dd, rfl, hbn, hbd⟩ := hb.form
  obtain ⟨sa, hsa⟩ : ∃ sa, rneg a = sa := ⟨_, rfl⟩
  obtain ⟨sb, hsb⟩ : ∃ sb, rneg b = sb := ⟨_, rfl⟩
  rw [hsa] at ha0
  rw [hsb] at hb0
  rw [hsa, hsb]
  have hL' := Lib.hid hL
  have ha' := Lib.hid ha
  have hb' := Lib.hid hb
  have han' := Lib.hid han
  have had' := Lib.hid had
  have hbn' := Lib.hid hbn
  have hbd' := Lib.hid hbd
  have hsa' := Lib.hid hsa
  have hsb' := Lib.hid hsb
  have hma' := Lib.hid hma
  have hmb' := Lib.hid hmb
  have hmn' := Lib.hid hmn
  have hsub' := Lib.hid hsub
  have ha0' := Lib.hid ha0
  have hb0' := Lib.hid hb0
  clear hb0 ha0 hsub hmn hmb hma hsb hsa hbd hbn had han hb ha hL
  go_enter Try.func30, Try.ntmps30
  go_wp2
  obtain ⟨W0, hW0, hsz, hle, h0, h1, h2⟩ := new3_le w (.cells #[.bool sa, .slice An (dg (rnum a)).length cn, .slice Ad (dg a.den).length cd] 64) (.cells #[.bool sb, .slice Bn (dg (rnum b)).length dn, .slice Bd (dg b.den).length dd] 64) (.cells #[.bool false, .slice none 0 0, .slice none 0 0] 64)
  rw [hW0]
  clear hW0
  obtain ⟨ca0, ca1, ca2, -⟩ := cells3 h0
  obtain ⟨cb0, cb1, cb2, -⟩ := cells3 h1
  have hUp0 := hL'.out.le hle
  have ha1 := ha0'.out.le hle
  have hb1 := hb0'.out.le hle
  have h0' := Lib.hid h0
  have h1' := Lib.hid h1
  have h2' := Lib.hid h2
  have hle' := Lib.hid hle
  have hUp0' := Lib.hid hUp0
  have ha1' := Lib.hid ha1
  have hb1' := Lib.hid hb1
  clear hb1 ha1 hUp0 hle h2 h1 h0
  refine wp_region_monoL (R := leRel) 4 [some 5, some 6, some 7, some 8, none] [[], [], [1], [0, 2], [3]]
    [.eq (.agg #[.bool sa, .slice An (dg (rnum a)).length cn, .slice Ad (dg a.den).length cd]), .eq (.agg #[.bool sb, .slice Bn (dg (rnum b)).length dn, .slice Bd (dg b.den).length dd]), MPred.rat L .u32 (-b), MPred.rat L .u32 (a - b)] (fun _ _ => False) (by kernel_rfl) (by kernel_rfl) (by kernel_rfl) (by kernel_rfl) ?_ (fun _ _ _ _ _ h => h.elim) ?_
  · simp only [List.take_succ_cons, List.take_zero]
    refine monoSteps_cons ?_ (monoSteps_cons ?_ (monoSteps_cons ?_ (monoSteps_cons ?_ (monoSteps_nil))))
    · refine monoStep_list rfl fun x W hR hf Q hK _ => ?_
      have cc0 := (Below.cell hR (p := ⟨w.heap.size, 0, none⟩) (by show w.heap.size < W0.heap.size; omega)).trans ca0
      have cc1 := (Below.cell hR (p := ⟨w.heap.size, 1, none⟩) (by show w.heap.size < W0.heap.size; omega)).trans ca1
      have cc2 := (Below.cell hR (p := ⟨w.heap.size, 2, none⟩) (by show w.heap.size < W0.heap.size; omega)).trans ca2
      simp only [fillAct, List.getD_cons_succ, List.getD_cons_zero, Act.put, List.setIfInBounds_toArray, List.set_cons_succ, List.set_cons_zero] at hK ⊢
      go_wp2
      exact hK _ _ (leRel.refl _) rfl
    · refine monoStep_list rfl fun x W hR hf Q hK _ => ?_
      have cc0 := (Below.cell hR (p := ⟨w.heap.size + 1, 0, none⟩) (by show w.heap.size + 1 < W0.heap.size; omega)).trans cb0
      have cc1 := (Below.cell hR (p := ⟨w.heap.size + 1, 1, none⟩) (by show w.heap.size + 1 < W0.heap.size; omega)).trans cb1
      have cc2 := (Below.cell hR (p := ⟨w.heap.size + 1, 2, none⟩) (by show w.heap.size + 1 < W0.heap.size; omega)).trans cb2
      simp only [fillAct, List.getD_cons_succ, List.getD_cons_zero, Act.put, List.setIfInBounds_toArray, List.set_cons_succ, List.set_cons_zero] at hK ⊢
      go_wp2
      exact hK _ _ (leRel.refl _) rfl
    · refine monoStep_list rfl fun x W hR hf Q hK _ => ?_
      obtain ⟨e0, -⟩ := hf
      change _ = _ at e0
      simp only [fillAct, List.getD_cons_succ, List.getD_cons_zero, Act.put, List.setIfInBounds_toArray, List.set_cons_succ, List.set_cons_zero, e0] at hK ⊢
      go_wp2_with (fail)
      go_at_call 54
      refine (pf_ropposite L b _ W (hb1'.out.le hR)).mono ?_
      rintro e w' ⟨v', rfl, y1, y2⟩
      obtain ⟨A1, c1, A2, c2, rfl, -, -⟩ := y2.form
      go_wp2
      exact hK _ _ y1 y2
    · refine monoStep_list rfl fun x W hR hf Q hK _ => ?_
      obtain ⟨e0, e1, -⟩ := hf
      change _ = _ at e0
      replace e1 : RatL L .u32 W (x 2) (-b) := e1
      simp only [fillAct, List.getD_cons_succ, List.getD_cons_zero, Act.put, List.setIfInBounds_toArray, List.set_cons_succ, List.set_cons_zero, e0] at hK ⊢
      go_wp2_with (fail)
      go_at_call 53
      refine (pf_rplus L a (-b) _ _ W (hUp0'.out.le hR) (ha1'.out.le hR) e1 hma'.out hmn'.out).mono ?_
      rintro e w' ⟨v', rfl, y1, y2⟩
      rw [hsub'.out] at y2
      obtain ⟨A1, c1, A2, c2, rfl, -, -⟩ := y2.form
      go_wp2
      exact hK _ _ y1 y2
  · intro x W hR hf Q' hQ1 _
    have e0 := hf 0 (by decide)
    have e1 := hf 1 (by decide)
    have e15 : RatL L .u32 W (x 3) (a - b) := hf 3 (by decide)
    change _ = _ at e0 e1
    obtain ⟨A1, c1, A2, c2, e16, y3, y4⟩ := e15.form
    have h2W := (Below.block hR (w.heap.size + 1 + 1) (by omega)).trans h2'.out
    obtain ⟨z0, z1, z2, g0, g1, g2⟩ := cells3 h2W
    simp only [List.drop_succ_cons, List.drop_zero]
    rw [show List.range 4 = [0, 1, 2, 3] from rfl]
    simp only [fillAct, List.getD_cons_succ, List.getD_cons_zero, Act.put, List.setIfInBounds_toArray, List.set_cons_succ, List.set_cons_zero, e0, e1, e16]
    generalize x 2 = x2
    clear e0 e1 hf
    have hle9 := fun u0 u1 u2 => le_set3 (u0 := u0) (u1 := u1) (u2 := u2) (Le.trans hle'.out hR) (show w.heap.size ≤ w.heap.size + 1 + 1 by omega)
    have hb9 := fun u0 u1 u2 => cells3 (heap_set3 (u0 := u0) (u1 := u1) (u2 := u2) h2W)
    have hfin := fun u0 u1 u2 => And.intro (NumL.box3 (u0 := u0) (u1 := u1) (u2 := u2) y3 h2W) (NumL.box3 (u0 := u0) (u1 := u1) (u2 := u2) y4 h2W)
    obtain ⟨sr, hsr⟩ : ∃ sr, rneg (a - b) = sr := ⟨_, rfl⟩
    rw [hsr]
    have hle9' := Lib.hid hle9
    have hb9' := Lib.hid hb9
    have hfin' := Lib.hid hfin
    have h2W' := Lib.hid h2W
    have y3' := Lib.hid y3
    have y4' := Lib.hid y4
    have e16' := Lib.hid e16
    have e15' := Lib.hid e15
    have hR' := Lib.hid hR
    have hsr' := Lib.hid hsr
    clear hsr hR e15 e16 y4 y3 h2W hfin hb9 hle9
    go_wp2
    refine hQ1 _ _ ?_
    go_wp2
    obtain ⟨d0, d1, d2, -⟩ := hb9'.out (.bool sr) (.slice A1 (dg (rnum (a - b))).length c1) (.slice A2 (dg (a - b).den).length c2)
    refine bodyPost_ret (v := .agg #[.bool sr, .slice A1 (dg (rnum (a - b))).length c1, .slice A2 (dg (a - b).den).length c2]) (by simp [results, Try.results30, go_sem, d0, d1, d2]) rfl ⟨_, rfl, hle9'.out _ _ _, ?_⟩
    exact ⟨_, _, by rw [hsr'.out], (hfin'.out _ _ _).1, (hfin'.out _ _ _).2⟩
end Go.Proofs.Ytbikpadjmmgpcaa
namespace Go.Proofs.Ytbikpadjmmgpcaa
open Go.RowKit Go.Shelf
set_option linter.unusedVariables false
set_option linter.unusedSimpArgs false
theorem u64_neg (z : Int) (h : z < 0) (hl : -9223372036854775808 ≤ z) : IntKind.u64.wrap z = z + 18446744073709551616 ∧ IntKind.u64.wrap (-(z + 18446744073709551616)) = (z.natAbs : Int) := by
  have h64 : (2 : Int) ^ IntKind.u64.bits = 18446744073709551616 := by decide
  have hs : IntKind.u64.signed = false := rfl
  unfold IntKind.wrap
  simp only [h64, hs]
  constructor
  · simp; omega
  · simp; omega
theorem u64_pos (z : Int) (h : ¬ z < 0) (hl : z ≤ 9223372036854775807) : IntKind.u64.wrap z = (z.natAbs : Int) := by
  have h64 : (2 : Int) ^ IntKind.u64.bits = 18446744073709551616 := by decide
  have hs : IntKind.u64.signed = false := rfl
  unfold IntKind.wrap
  simp only [h64, hs]
  simp; omega
theorem numL_alloc1 {L : Nat → Prop} {V : World} (hL : ∀ b, V.heap.size ≤ b → L b) (t : TypeId) : NumL L .u32 (V.alloc (.cells #[.int .u32 1] t)) (.slice (some ⟨V.heap.size, 0, none⟩) 1 1) 1 := by
  unfold NumL
  rw [dg_one]
  refine ⟨some ⟨V.heap.size, 0, none⟩, 1, rfl, Nat.le_refl _, by unfold maxLen; omega, nofun, fun _ => ⟨V.heap.size, 0, rfl, hL _ (Nat.le_refl _), by unfold World.alloc; show V.heap.size < (V.heap.push _).size; rw [Array.size_push]; omega, fun j hj => ?_⟩⟩
  have h0 : j = 0 := by simpa using hj
  subst h0
  exact cell_of_row _ _ _ #[.int .u32 1] t (0, 0) (by unfold World.alloc; exact Array.getElem?_push_size)
theorem number_fin {L : Nat → Prop} {w W : World} {z : Int} {N : Nat} {s : Bool} {t t2 : TypeId} {A1 : Option Addr} {c1 : Nat} (hUp : Up w L) (hle : Le w W) (hlt : w.heap.size < W.heap.size)
    (hbx : W.heap[w.heap.size]? = some (.cells #[.bool false, .slice none 0 0, .slice none 0 0] t)) (hn : NumL L .u32 W (.slice A1 (dg N).length c1) N) (hN : z.natAbs = N) (hs : decide (z < 0) = s) :
    ∃ X, (((W.setCell ⟨w.heap.size, 0, none⟩ (.bool s)).setCell ⟨w.heap.size, 1, none⟩ (.slice A1 (dg N).length c1)).setCell ⟨w.heap.size, 2, none⟩ (.slice (some ⟨W.heap.size, 0, none⟩) 1 1)).alloc (.cells #[.int .u32 1] t2) = X ∧ (X.cell? ⟨w.heap.size, 0, none⟩ = some (.bool s) ∧ X.cell? ⟨w.heap.size, 1, none⟩ = some (.slice A1 (dg N).length c1) ∧ X.cell? ⟨w.heap.size, 2, none⟩ = some (.slice (some ⟨W.heap.size, 0, none⟩) 1 1)) ∧
      Le w X ∧ RatL L .u32 X (.agg #[.bool s, .slice A1 (dg N).length c1, .slice (some ⟨W.heap.size, 0, none⟩) 1 1]) (z : Rat) := by
  have h1 := le_set3 (u0 := .bool s) (u1 := .slice A1 (dg N).length c1) (u2 := .slice (some ⟨W.heap.size, 0, none⟩) 1 1) hle (Nat.le_refl _)
  have h2 := heap_set3 (u0 := .bool s) (u1 := .slice A1 (dg N).length c1) (u2 := .slice (some ⟨W.heap.size, 0, none⟩) 1 1) hbx
  have h3 := NumL.box3 (u0 := .bool s) (u1 := .slice A1 (dg N).length c1) (u2 := .slice (some ⟨W.heap.size, 0, none⟩) 1 1) hn hbx
  have h4 : (((W.setCell ⟨w.heap.size, 0, none⟩ (.bool s)).setCell ⟨w.heap.size, 1, none⟩ (.slice A1 (dg N).length c1)).setCell ⟨w.heap.size, 2, none⟩ (.slice (some ⟨W.heap.size, 0, none⟩) 1 1)).heap.size = W.heap.size := by simp [World.setCell]
  generalize (((W.setCell ⟨w.heap.size, 0, none⟩ (.bool s)).setCell ⟨w.heap.size, 1, none⟩ (.slice A1 (dg N).length c1)).setCell ⟨w.heap.size, 2, none⟩ (.slice (some ⟨W.heap.size, 0, none⟩) 1 1)) = V at *
  refine ⟨_, rfl, ?_, h1.trans (le_alloc _ _), ?_⟩
  · have hk := le_alloc V (.cells #[.int .u32 1] t2)
    obtain ⟨d0, d1, d2, -⟩ := cells3 ((Below.block hk w.heap.size (by omega)).trans h2)
    exact ⟨d0, d1, d2⟩
  · refine ⟨_, _, by rw [show rneg (z : Rat) = s by rw [← hs]; rfl], ?_, ?_⟩
    · rw [show rnum (z : Rat) = N by rw [← hN]; rfl]
      exact h3.le (le_alloc _ _)
    · rw [show (z : Rat).den = 1 from rfl, ← h4]
      exact numL_alloc1 (fun b hb => hUp b (by omega)) _
set_option maxRecDepth 100000 in
set_option maxHeartbeats 2000000 in
theorem pf_number (L : Nat → Prop) (z : Int) (w : World) (hL : Up w L) (hz0 : -9223372036854775808 ≤ z) (hz1 : z ≤ 9223372036854775807) :
    Calls Try.prog 25 #[.int .i64 z] w fun e w' => ∃ v', e = .returned v' ∧ Le w w' ∧ RatL L .u32 w' v' (z : Rat) := by
  obtain ⟨N, hN⟩ : ∃ N, z.natAbs = N := ⟨_, rfl⟩
  have hNl : (N : Int) ≤ 18446744073709551615 := by omega
  by_cases hz : z < 0
  · obtain ⟨w1, w2⟩ := u64_neg z hz hz0
    rw [hN] at w2
    have hs := decide_eq_true hz
    have hL' := Lib.hid hL
    have hN' := Lib.hid hN
    have hs' := Lib.hid hs
    clear hs hN hL
    go_enter Try.func25, Try.ntmps25
    go_wp2_with (fail)
    go_at_call 46
    refine (pf_small N _ hNl).mono ?_
    rintro e W ⟨v', rfl, hB, hown⟩
    have hn2 : NumL L .u32 W v' N := ArrL.of_own hown (hL'.out.le (le_alloc _ _))
    obtain ⟨A1, c1, rfl⟩ := hn2.slice
    obtain ⟨hle1, hbx⟩ := box_le hB
    obtain ⟨z0, z1, z2, g0, g1, g2⟩ := cells3 hbx
    have hlt := (Array.getElem?_eq_some_iff.1 hbx).1
    have hB' := Lib.hid hB
    have hown' := Lib.hid hown
    have hn2' := Lib.hid hn2
    have hle1' := Lib.hid hle1
    have hbx' := Lib.hid hbx
    clear hbx hle1 hn2 hown hB
    go_wp2
    obtain ⟨X, hX, ⟨d0, d1, d2⟩, hle9, hfin⟩ := number_fin (s := true) (t2 := 91) hL'.out hle1'.out hlt hbx'.out hn2'.out hN'.out hs'.out
    rw [hX]
    exact bodyPost_ret (v := .agg #[.bool true, .slice A1 (dg N).length c1, .slice (some ⟨W.heap.size, 0, none⟩) 1 1]) (by simp [results, Try.results25, go_sem, d0, d1, d2]) rfl ⟨_, rfl, hle9, hfin⟩
  · have w1 := u64_pos z hz hz1
    rw [hN] at w1
    have hs := decide_eq_false hz
    have hL' := Lib.hid hL
    have hN' := Lib.hid hN
    have hs' := Lib.hid hs
    clear hs hN hL
    go_enter Try.func25, Try.ntmps25
    go_wp2_with (fail)
    go_at_call 46
    refine (pf_small N _ hNl).mono ?_
    rintro e W ⟨v', rfl, hB, hown⟩
    have hn2 : NumL L .u32 W v' N := ArrL.of_own hown (hL'.out.le (le_alloc _ _))
    obtain ⟨A1, c1, rfl⟩ := hn2.slice
    obtain ⟨hle1, hbx⟩ := box_le hB
    obtain ⟨z0, z1, z2, g0, g1, g2⟩ := cells3 hbx
    have hlt := (Array.getElem?_eq_some_iff.1 hbx).1
    have hB' := Lib.hid hB
    have hown' := Lib.hid hown
    have hn2' := Lib.hid hn2
    have hle1' := Lib.hid hle1
    have hbx' := Lib.hid hbx
    clear hbx hle1 hn2 hown hB
    go_wp2
    obtain ⟨X, hX, ⟨d0, d1, d2⟩, hle9, hfin⟩ := number_fin (s := false) (t2 := 91) hL'.out hle1'.out hlt hbx'.out hn2'.out hN'.out hs'.out
    rw [hX]
    exact bodyPost_ret (v := .agg #[.bool false, .slice A1 (dg N).length c1, .slice (some ⟨W.heap.size, 0, none⟩) 1 1]) (by simp [results, Try.results25, go_sem, d0, d1, d2]) rfl ⟨_, rfl, hle9, hfin⟩
end Go.Proofs.Ytbikpadjmmgpcaa
namespace Go.Proofs.Ytbikpadjmmgpcaa
open Go.RowKit Go.Shelf
set_option linter.unusedVariables false
set_option linter.unusedSimpArgs false
theorem pf_IndexFunc32 (L : Nat → Prop) (p : Nat → Bool) (g : FuncId) (cap : Array Value) (v : Value) (zs : List Nat) (w : World) (hv : ArrL L (gv .u32) w v zs)
   (hg : Plain Try.prog g)
   (hf : ∀ x, x ∈ zs → Calls Try.prog g (#[gv .u32 x] ++ cap) w (fun e w2 => e = .returned (.bool (p x)) ∧ w = w2)) :
    Calls Try.prog 84 #[v, .func (.func g) #[] cap] w fun e w' => e = .returned (.int .i64 (idx p zs)) ∧ w = w' := by
  obtain ⟨A, c, rfl, hlc, hcm, _, hr⟩ := hv
  unfold Plain at hg
  unfold maxLen at hcm
  go_enter Try.func84, Try.ntmps84
  go_wp2
  go_loop [8, 4] (fun i r => ∃ k : Nat, k ≤ zs.length ∧ i = .int .i64 k ∧ r = .int .i64 0 ∧ ∀ j (h : j < zs.length), j < k → p zs[j] = false) (fun i _ => zs.length - (intOf i).toNat)
  case atStart => exact ⟨0, Nat.zero_le _, rfl, rfl, fun j _ h => absurd h (by omega)⟩
  case round =>
    obtain ⟨k, hk, rfl, rfl, hp⟩ := hrel
    have hp' := Lib.hid hp
    clear hp
    by_cases hlt : k < zs.length
    · obtain ⟨b, off, rfl, _, hb, hc⟩ := hr (by omega)
      have hck := hc k hlt
      have hmem := List.getElem_mem hlt
      generalize hx : zs[k] = x at hck hmem
      have hx' := Lib.hid hx
      clear hc hr hx
      by_cases hpx : p x = true
      · go_wp2_with (first | (refine (hf x hmem).mono ?_; rintro e w' ⟨rfl, rfl⟩))
        go_ret
        exact ⟨ret_int (idx_hit p zs k hlt (by rw [hx'.out]; exact hpx) hp'.out), rfl⟩
      · have hpx' : p x = false := by simpa using hpx
        go_wp2_with (first | (refine (hf x hmem).mono ?_; rintro e w' ⟨rfl, rfl⟩))
        go_round
        case rel => exact ⟨k + 1, by omega, by go_num, rfl, fun j h hj => by
          by_cases hjk : j = k
          · subst hjk; rw [hx'.out]; exact hpx'
          · exact hp'.out j h (by omega)⟩
        case measure => simp [intOf]; omega
    · go_wp2
      go_ret
      exact ⟨ret_int (idx_miss p zs fun j h => hp'.out j h (by omega)), rfl⟩
theorem pf_ContainsFunc32 (L : Nat → Prop) (p : Nat → Bool) (g : FuncId) (cap : Array Value) (v : Value) (zs : List Nat) (w : World) (hv : ArrL L (gv .u32) w v zs)
   (hg : Plain Try.prog g)
   (hf : ∀ x, x ∈ zs → Calls Try.prog g (#[gv .u32 x] ++ cap) w (fun e w2 => e = .returned (.bool (p x)) ∧ w = w2)) :
    Calls Try.prog 66 #[v, .func (.func g) #[] cap] w fun e w' => e = .returned (.bool (zs.any p)) ∧ w = w' := by
  go_enter Try.func66, Try.ntmps66
  go_wp2_with (first | (go_at_call 84; refine (pf_IndexFunc32 L p g cap _ zs _ hv hg hf).mono ?_; rintro e w' ⟨rfl, rfl⟩))
  go_ret
  exact ⟨ret_bool (idx_any p zs), rfl⟩
theorem pf_isWhole1 (g : Nat) (w : World) : Calls Try.prog 67 #[gv .u32 g] w fun e w' => e = .returned (.bool (decide (1000000000 ≤ g))) ∧ w = w' := by
  unfold gv
  go_enter Try.func67, Try.ntmps67
  go_wp2
  go_ret
  exact ⟨ret_bool (decide_eq_decide.2 (by omega)), rfl⟩
/-- What isWhole answers. -/
def isW (neg : Bool) (gs : List Nat) : Bool := decide (gs.length ≤ 40) && !(gs.any fun g => decide (1000000000 ≤ g)) && (if gs.length = 0 then !neg else decide (0 < gs.getD (gs.length - 1) 0))
theorem plain_isWhole1 : Plain Try.prog 67 := fun _ _ => by kernel_rfl
theorem isW_any {neg : Bool} {gs : List Nat} (h : (gs.any fun g => decide (1000000000 ≤ g)) = true) : isW neg gs = false := by
  unfold isW
  rw [h, Bool.not_true, Bool.and_false, Bool.false_and]
theorem isW_nil {neg : Bool} {gs : List Nat} (hl : ¬ 40 < gs.length) (h : (gs.any fun g => decide (1000000000 ≤ g)) = false) (h0 : gs.length = 0) : isW neg gs = !neg := by
  unfold isW
  rw [h, decide_eq_true (by omega), if_pos h0, Bool.not_false, Bool.and_self, Bool.true_and]
theorem isW_some {neg : Bool} {gs : List Nat} {x : Nat} (hl : ¬ 40 < gs.length) (h : (gs.any fun g => decide (1000000000 ≤ g)) = false) (h0 : ¬ gs.length = 0) (hx : gs.getD (gs.length - 1) 0 = x) : isW neg gs = decide (0 < x) := by
  unfold isW
  rw [h, decide_eq_true (by omega), if_neg h0, Bool.not_false, Bool.and_self, Bool.true_and, hx]
theorem isW_big {neg : Bool} {gs : List Nat} (h : 40 < gs.length) : isW neg gs = false := by
  unfold isW
  rw [decide_eq_false (by omega), Bool.false_and, Bool.false_and]
set_option maxRecDepth 100000 in
set_option maxHeartbeats 1000000 in
theorem pf_isWhole (L : Nat → Prop) (neg : Bool) (gs : List Nat) (v : Value) (w : World) (hL : Up w L) (hv : ArrL L (gv .u32) w v gs) :
    Calls Try.prog 50 #[.agg #[.bool neg, v]] w fun e w' => e = .returned (.bool (isW neg gs)) ∧ Le w w' := by
  have hv0 := hv
  obtain ⟨A, c, rfl, hlc, hcm, hN, hr⟩ := hv
  unfold maxLen at hcm
  have hv1 := fun o => hv0.le (le_alloc w o)
  have hle := le_alloc w (.cells #[.bool neg, .slice A gs.length c] 27)
  by_cases hl : 40 < gs.length
  · have hdec : decide (40 < gs.length) = true := decide_eq_true hl
    have hfin := isW_big (neg := neg) hl
    have hL' := Lib.hid hL
    have hv0' := Lib.hid hv0
    have hv1' := Lib.hid hv1
    have hr' := Lib.hid hr
    have hN' := Lib.hid hN
    have hle' := Lib.hid hle
    have hfin' := Lib.hid hfin
    clear hfin hle hN hr hv1 hv0 hL
    go_enter Try.func50, Try.ntmps50
    go_wp2
    go_ret
    exact ⟨ret_bool hfin'.out.symm, hle'.out⟩
  · have hdec : decide (40 < gs.length) = false := decide_eq_false hl
    have hL' := Lib.hid hL
    have hv0' := Lib.hid hv0
    have hv1' := Lib.hid hv1
    have hr' := Lib.hid hr
    have hN' := Lib.hid hN
    have hle' := Lib.hid hle
    clear hle hN hr hv1 hv0 hL
    go_enter Try.func50, Try.ntmps50
    have hi : ¬ 40 < (gs.length : Int) := by omega
    go_wp2_with (fail)
    go_at_call 66
    refine (pf_ContainsFunc32 L (fun g => decide (1000000000 ≤ g)) 67 #[] _ gs _ (hv1'.out _) plain_isWhole1 (fun x _ => pf_isWhole1 x _)).mono ?_
    rintro e W ⟨rfl, rfl⟩
    by_cases hany : (gs.any fun g => decide (1000000000 ≤ g)) = true
    · have hfin := isW_any (neg := neg) hany
      rw [hany]
      have hfin' := Lib.hid hfin
      have hany' := Lib.hid hany
      clear hany hfin
      go_wp2
      go_ret
      exact ⟨ret_bool hfin'.out.symm, hle'.out⟩
    · have hany : (gs.any fun g => decide (1000000000 ≤ g)) = false := by simpa using hany
      rw [hany]
      by_cases h0 : gs.length = 0
      · have hfin := isW_nil (neg := neg) hl hany h0
        have hi0 : (gs.length : Int) = 0 := by omega
        have hb0 : ((gs.length : Int) == 0) = true := beq_iff_eq.2 hi0
        have hb1 : ¬ 0 < (gs.length : Int) := by omega
        have hb2 : ¬ 0 < gs.length := by omega
        have hfin' := Lib.hid hfin
        have hany' := Lib.hid hany
        clear hany hfin
        cases neg
        · go_wp2
          go_ret
          exact ⟨ret_bool hfin'.out.symm, le_alloc _ _⟩
        · go_wp2
          go_ret
          exact ⟨ret_bool hfin'.out.symm, le_alloc _ _⟩
      · obtain ⟨b, off, rfl, -, hb, hc⟩ := hr'.out (by omega)
        have hck := hc (gs.length - 1) (by omega)
        have hxx : gs.getD (gs.length - 1) 0 = gs[gs.length - 1]'(by omega) := by rw [List.getD_eq_getElem?_getD, List.getElem?_eq_getElem (by omega)]; rfl
        generalize gs[gs.length - 1]'(by omega) = x at hck hxx
        have hfin := isW_some (neg := neg) hl hany h0 hxx
        have hi0 : ¬ (gs.length : Int) = 0 := by omega
        have hb0 : ((gs.length : Int) == 0) = false := beq_eq_false_iff_ne.2 hi0
        have hb1 : 0 < (gs.length : Int) := by omega
        have hb2 : 0 < gs.length := by omega
        unfold gv at hck
        have hfin' := Lib.hid hfin
        have hany' := Lib.hid hany
        have hc' := Lib.hid hc
        have hxx' := Lib.hid hxx
        clear hxx hc hany hfin
        go_wp2
        go_ret
        exact ⟨ret_bool (by rw [hfin'.out]), hle'.out⟩
end Go.Proofs.Ytbikpadjmmgpcaa
namespace Go.Proofs.Ytbikpadjmmgpcaa
open Go.RowKit Go.Shelf
set_option linter.unusedVariables false
set_option linter.unusedSimpArgs false
theorem pf_must_ok (e : Int) (w : World) : Calls Try.prog 44 #[.bool true, .int .i64 e] w fun E w' => E = .returned (.tuple #[]) ∧ w = w' := by
  go_enter Try.func44, Try.ntmps44
  go_wp2
  go_end0
  exact ⟨rfl, rfl⟩
theorem pf_must_no (e : Int) (w : World) : Calls Try.prog 44 #[.bool false, .int .i64 e] w fun E w' => E = .panicked [{ v := .iface 87 (.agg #[.int .i64 e]), recovered := false }] ∧ w = w' := by
  go_enter Try.func44, Try.ntmps44
  go_wp2
  exact ⟨rfl, rfl, rfl⟩
theorem box2_le {w w' : World} {o0 o1 : Obj} (h : Le ((w.alloc o0).alloc o1) w') : Le w w' ∧ w'.heap[w.heap.size]? = some o0 ∧ w'.heap[w.heap.size + 1]? = some o1 := by
  obtain ⟨h1, h2⟩ := box_le h
  obtain ⟨h3, h4⟩ := box_le h1
  have hs : (w.alloc o0).heap.size = w.heap.size + 1 := by unfold World.alloc; show (w.heap.push _).size = _; rw [Array.size_push]
  rw [hs] at h2
  exact ⟨h3, h4, h2⟩
theorem cells4 {W : World} {X : Nat} {v0 v1 v2 v3 : Value} {t : TypeId} (h : W.heap[X]? = some (Obj.cells #[v0, v1, v2, v3] t)) : W.cell? ⟨X, 0, none⟩ = some v0 ∧ W.cell? ⟨X, 1, none⟩ = some v1 ∧ W.cell? ⟨X, 2, none⟩ = some v2 ∧ W.cell? ⟨X, 3, none⟩ = some v3 :=
  ⟨cell_of_row W X 0 _ _ _ h, cell_of_row W X 1 _ _ _ h, cell_of_row W X 2 _ _ _ h, cell_of_row W X 3 _ _ _ h⟩
set_option maxRecDepth 100000 in
set_option maxHeartbeats 1000000 in
theorem pf_in_ok (L : Nat → Prop) (r : Rat) (vn vd : Value) (w : World) (hL : Up w L) (hn : NumL L .u32 w vn (rnum r)) (hd : NumL L .u32 w vd r.den) (hsn : isW (rneg r) (dg (rnum r)) = true) (hsd : isW false (dg r.den) = true) (hs : Rsz r 40) :
    Calls Try.prog 29 #[.agg #[.bool (rneg r), vn, .bool false, vd]] w fun e w' => ∃ v', e = .returned v' ∧ Le w w' ∧ RatL L .u32 w' v' r := by
  have hn0 := hn
  have hd0 := hd
  obtain ⟨A1, c1, rfl⟩ := hn.slice
  obtain ⟨A2, c2, rfl⟩ := hd.slice
  obtain ⟨hs1, hs2⟩ := hs
  have hlpos : 0 < (dg r.den).length := dg_length_pos.2 (Nat.ne_of_gt (rden_pos r))
  have hlposI : 0 < ((dg r.den).length : Int) := by omega
  obtain ⟨sr, hsr⟩ : ∃ sr, rneg r = sr := ⟨_, rfl⟩
  rw [hsr] at hsn ⊢
  have hL' := Lib.hid hL
  have hn' := Lib.hid hn
  have hd' := Lib.hid hd
  have hn0' := Lib.hid hn0
  have hd0' := Lib.hid hd0
  have hsn' := Lib.hid hsn
  have hsd' := Lib.hid hsd
  have hsr' := Lib.hid hsr
  clear hsr hsd hsn hd0 hn0 hd hn hL
  go_enter Try.func29, Try.ntmps29
  go_wp2_with (fail)
  go_at_call 50
  refine (pf_isWhole L sr (dg (rnum r)) _ _ (hL'.out.le ((le_alloc _ _).trans (le_alloc _ _))) (hn0'.out.le ((le_alloc _ _).trans (le_alloc _ _)))).mono ?_
  rintro e W ⟨rfl, hle⟩
  rw [hsn'.out]
  obtain ⟨hle1, hbx, hby⟩ := box2_le hle
  obtain ⟨a0, a1, a2, a3⟩ := cells4 hbx
  have hUp1 := hL'.out.le hle1
  have hd1 := hd0'.out.le hle1
  have hle' := Lib.hid hle
  have hle1' := Lib.hid hle1
  have hbx' := Lib.hid hbx
  have hby' := Lib.hid hby
  have hUp1' := Lib.hid hUp1
  have hd1' := Lib.hid hd1
  clear hd1 hUp1 hby hbx hle1 hle
  go_wp2_with (fail)
  go_at_call 50
  refine (pf_isWhole L false (dg r.den) _ _ hUp1'.out hd1'.out).mono ?_
  rintro e W2 ⟨rfl, hle2⟩
  rw [hsd'.out]
  clear a0 a1 a2 a3
  have hlt := (Array.getElem?_eq_some_iff.1 hbx'.out).1
  have hlt1 := (Array.getElem?_eq_some_iff.1 hby'.out).1
  have hbx2 := (Below.block hle2 _ hlt).trans hbx'.out
  have hby2 := (Below.block hle2 _ hlt1).trans hby'.out
  obtain ⟨a0, a1, a2, a3⟩ := cells4 hbx2
  have hle3 := Le.trans hle1'.out hle2
  have hsz := Below.size hle2
  have hle2' := Lib.hid hle2
  have hbx2' := Lib.hid hbx2
  have hby2' := Lib.hid hby2
  have hle3' := Lib.hid hle3
  clear hle3 hby2 hbx2 hle2
  go_wp2_with (fail)
  go_at_call 44
  refine (pf_must_ok _ _).mono ?_
  rintro e W3 ⟨rfl, rfl⟩
  go_wp2_with (fail)
  go_at_call 51
  refine (pf_common L (rnum r) r.den _ _ _ (hL'.out.le (hle3'.out.trans (le_alloc _ _))) (hn0'.out.le (hle3'.out.trans (le_alloc _ _))) (hd0'.out.le (hle3'.out.trans (le_alloc _ _))) (by omega) (by omega)).mono ?_
  rintro e W4 ⟨vg, rfl, hle4, hg⟩
  rw [rat_co r] at hg
  obtain ⟨G, c3, rfl⟩ := hg.slice
  obtain ⟨hle5, hbz⟩ := box_le hle4
  have hle6 := Le.trans hle3'.out hle5
  have hby4 := (Below.block hle5 _ (Array.getElem?_eq_some_iff.1 hby2'.out).1).trans hby2'.out
  obtain ⟨z0, z1, z2, g0, g1, g2⟩ := cells3 hbz
  obtain ⟨y0, y1, y2, k0, k1, k2⟩ := cells3 hby4
  have hle4' := Lib.hid hle4
  have hg' := Lib.hid hg
  have hle5' := Lib.hid hle5
  have hbz' := Lib.hid hbz
  have hle6' := Lib.hid hle6
  have hby4' := Lib.hid hby4
  clear hby4 hle6 hbz hle5 hg hle4
  clear a0 a1 a2 a3
  go_wp2_with (fail)
  go_at_call 52
  refine (pf_one L 1 _ W4 hg'.out).mono ?_
  rintro e W5 ⟨rfl, rfl⟩
  go_wp2_with (fail)
  go_at_call 44
  refine (pf_must_ok _ _).mono ?_
  rintro e W6 ⟨rfl, rfl⟩
  have hle9 := fun u0 u1 u2 => le_set3 (u0 := u0) (u1 := u1) (u2 := u2) hle6'.out (show w.heap.size ≤ w.heap.size + 1 by omega)
  have hb9 := fun u0 u1 u2 => cells3 (heap_set3 (u0 := u0) (u1 := u1) (u2 := u2) hby4'.out)
  have hfin := fun u0 u1 u2 => And.intro (NumL.box3 (u0 := u0) (u1 := u1) (u2 := u2) (hn0'.out.le hle6'.out) hby4'.out) (NumL.box3 (u0 := u0) (u1 := u1) (u2 := u2) (hd0'.out.le hle6'.out) hby4'.out)
  have hle9' := Lib.hid hle9
  have hb9' := Lib.hid hb9
  have hfin' := Lib.hid hfin
  clear hfin hb9 hle9
  go_wp2
  obtain ⟨d0, d1, d2, -⟩ := hb9'.out (.bool sr) (.slice A1 (dg (rnum r)).length c1) (.slice A2 (dg r.den).length c2)
  refine bodyPost_ret (v := .agg #[.bool sr, .slice A1 (dg (rnum r)).length c1, .slice A2 (dg r.den).length c2]) (by simp [results, Try.results29, go_sem, d0, d1, d2]) rfl ⟨_, rfl, hle9'.out _ _ _, ?_⟩
  exact ⟨_, _, by rw [hsr'.out], (hfin'.out _ _ _).1, (hfin'.out _ _ _).2⟩
end Go.Proofs.Ytbikpadjmmgpcaa
namespace Go.Proofs.Ytbikpadjmmgpcaa
open Go.RowKit Go.Shelf
set_option linter.unusedVariables false
set_option linter.unusedSimpArgs false
set_option maxRecDepth 10000
theorem run_int_idle (p q : Addr) (w : World) :
    CallsD Try.prog 49 #[.pointer (some p), .pointer (some q)] .returning w fun e u' w' => e = .returned (.tuple #[]) ∧ u' = .returning ∧ w' = w := by
  refine callsD_of_wpS Try.func49 rfl fun c₀ cs hu => ?_
  apply wpS_seq
  apply wpS_region
  simp [wpOpsS, go_sem, recoverD, hu, Try.ntmps49, Exit.thenS]
  apply wpS_seq
  apply wpS_region
  simp [wpOpsS, go_sem, recoverD, hu, Try.ntmps49, Exit.thenS]
  refine wpS_cond (t := false) (by simp [Act.eval, Array.replicate]) ?_
  simp only [Bool.false_eq_true, if_false]
  refine wpS_of_wp (wp_skip ?_)
  cases c₀
  simp_all [bodyPostS, results, Try.results49]
theorem run_int_caught (B : Nat) (e : Int) (a b : Value) (tp tq : TypeId) (w : World) (hb : w.heap[B]? = some (.cells #[a] tp)) (hq : w.heap[B + 1]? = some (.cells #[b] tq)) :
    CallsD Try.prog 49 #[.pointer (some ⟨B, 0, none⟩), .pointer (some ⟨B + 1, 0, none⟩)] (.panicking [{ v := .iface 87 (.agg #[.int .i64 e]), recovered := false }]) w fun E u' w' => E = .returned (.tuple #[]) ∧ u' = .panicking [{ v := .iface 87 (.agg #[.int .i64 e]), recovered := true }] ∧
      w'.cell? ⟨B, 0, none⟩ = some (.int .i64 0) ∧ w'.cell? ⟨B + 1, 0, none⟩ = some (.int .i64 e) ∧ ∀ w0, Le w0 w → w0.heap.size ≤ B → Le w0 w' := by
  refine callsD_of_wpS Try.func49 rfl fun c₀ cs hu => ?_
  apply wpS_seq
  apply wpS_region
  simp [wpOpsS, go_sem, recoverD, hu, Try.ntmps49, Exit.thenS]
  apply wpS_seq
  apply wpS_region
  simp [wpOpsS, go_sem, recoverD, hu, Try.ntmps49, Exit.thenS]
  refine wpS_cond (t := true) (by simp [Act.eval, Array.replicate]) ?_
  simp only [if_true]
  refine wpS_of_wp ?_
  have hta : ∀ W : World, (Instr.typeAssert (Value.iface 87 (Value.agg #[Value.int IntKind.i64 e])) 20 87 true).run Try.prog W = .ok (.tuple #[.agg #[.int .i64 e], .bool true]) W := fun _ => by kernel_rfl
  have harr : ∀ a b c d e f g h : Value, #[a, b] ++ ((((((Array.replicate 18 undef).setIfInBounds 4 c).setIfInBounds 0 d).setIfInBounds 5 e).setIfInBounds 6 f)) = #[a, b, d, undef, undef, undef, c, e, f, undef, undef, undef, undef, undef, undef, undef, undef, undef, undef, undef] := fun _ _ _ _ _ _ _ _ => by first | kernel_rfl | simp [Array.replicate_succ]
  rw [harr _ _ _ _ _ _ undef undef]
  go_wp2
  obtain ⟨W, hW, hle, hk⟩ : ∃ W, w.alloc (.cells #[.int .i64 e] 87) = W ∧ Le w W ∧ W.heap[w.heap.size]? = some (.cells #[.int .i64 e] 87) := ⟨_, rfl, le_alloc _ _, by unfold World.alloc; exact Array.getElem?_push_size⟩
  rw [hW]
  have hb2 := (Below.block hle B (Array.getElem?_eq_some_iff.1 hb).1).trans hb
  have hq2 := (Below.block hle (B + 1) (Array.getElem?_eq_some_iff.1 hq).1).trans hq
  have hBl := (Array.getElem?_eq_some_iff.1 hb).1
  have hql := (Array.getElem?_eq_some_iff.1 hq).1
  have c1 := cell00 hb2
  have f1 := frozen00 hb2 0
  have c2 := cell00 hq2
  have f2 := frozen00 hq2 0
  have c3 := cell00 hk
  have n1 : ¬ w.heap.size = B := by omega
  have n2 : ¬ w.heap.size = B + 1 := by omega
  have n3 : ¬ B = w.heap.size := by omega
  have n4 : ¬ B + 1 = w.heap.size := by omega
  have n5 : ¬ B + 1 = B := by omega
  have hW' := Lib.hid hW
  have hle' := Lib.hid hle
  have hk' := Lib.hid hk
  have hb' := Lib.hid hb
  have hq' := Lib.hid hq
  have hb2' := Lib.hid hb2
  have hq2' := Lib.hid hq2
  have hu' := Lib.hid hu
  clear hu hq2 hb2 hq hb hk hle hW
  go_region
  have h1 := heap_put0 hb2'.out (u := .int .i64 0)
  have h2 : (W.setCell ⟨B, 0, none⟩ (.int .i64 0)).heap[B + 1]? = some (.cells #[b] tq) := (Below.heap_setCell _ _ _ _ (by show B + 1 ≠ B; omega)).trans hq2'.out
  have h3 := heap_put0 h2 (u := .int .i64 e)
  have h4 : ((W.setCell ⟨B, 0, none⟩ (.int .i64 0)).setCell ⟨B + 1, 0, none⟩ (.int .i64 e)).heap[B]? = some (.cells #[.int .i64 0] tp) := (Below.heap_setCell _ _ _ _ (by show B ≠ B + 1; omega)).trans h1
  have hle9 : ∀ w0, Le w0 w → w0.heap.size ≤ B → Le w0 ((W.setCell ⟨B, 0, none⟩ (.int .i64 0)).setCell ⟨B + 1, 0, none⟩ (.int .i64 e)).drew := fun w0 h0 h5 =>
    Le.trans ((Below.setCell (Le.trans h0 hle'.out) (p := ⟨B, 0, none⟩) h5 _).setCell (p := ⟨B + 1, 0, none⟩) (by show w0.heap.size ≤ B + 1; omega) _) Le.drew
  have d1 : ((W.setCell ⟨B, 0, none⟩ (.int .i64 0)).setCell ⟨B + 1, 0, none⟩ (.int .i64 e)).drew.cell? ⟨B, 0, none⟩ = _ := cell00 h4
  have d2 : ((W.setCell ⟨B, 0, none⟩ (.int .i64 0)).setCell ⟨B + 1, 0, none⟩ (.int .i64 e)).drew.cell? ⟨B + 1, 0, none⟩ = _ := cell00 h3
  generalize ((W.setCell ⟨B, 0, none⟩ (.int .i64 0)).setCell ⟨B + 1, 0, none⟩ (.int .i64 e)).drew = V at *
  show bodyPostS _ _ _ _ _ _ _ _ _
  simp [bodyPostS, results, Try.results49, go_sem, d1, d2]
  exact hle9
theorem pf_run_int_ok (g : FuncId) (cap : Array Value) (z : Int) (w : World) (hg : Plain Try.prog g) (hf : ∀ W, Le w W → Calls Try.prog g cap W fun e W' => e = .returned (.int .i64 z) ∧ Le W W') :
    Calls Try.prog 27 #[.func (.func g) #[] cap] w fun e w' => e = .returned (.tuple #[.int .i64 z, .int .i64 0]) ∧ Le w w' := by
  have hmf : ∀ (fn : Fn) (first cap : Array Value) (w : World), (Instr.makeFunc fn first cap).run Try.prog w = .ok (.func fn first cap) w := fun _ _ _ _ => rfl
  unfold Plain at hg
  go_enter_defers Try.func27, Try.ntmps27
  go_wp2_with (fail)
  refine (hf _ ((le_alloc _ _).trans (le_alloc _ _))).mono ?_
  rintro e W ⟨rfl, hle⟩
  obtain ⟨hle1, hb, hq⟩ := box2_le hle
  have c1 := cell00 hb
  have f1 := frozen00 hb 0
  have c2 := cell00 hq
  have f2 := frozen00 hq 0
  have hBl := (Array.getElem?_eq_some_iff.1 hb).1
  have hql := (Array.getElem?_eq_some_iff.1 hq).1
  have hle' := Lib.hid hle
  have hle1' := Lib.hid hle1
  have hb' := Lib.hid hb
  have hq' := Lib.hid hq
  clear hq hb hle1 hle
  go_wp2
  have h1 := heap_put0 hb'.out (u := .int .i64 z)
  have h2 : (W.setCell ⟨w.heap.size, 0, none⟩ (.int .i64 z)).heap[w.heap.size + 1]? = _ := (Below.heap_setCell _ _ _ _ (by show w.heap.size + 1 ≠ w.heap.size; omega)).trans hq'.out
  have h3 := heap_put0 h2 (u := .int .i64 0)
  have h4 : ((W.setCell ⟨w.heap.size, 0, none⟩ (.int .i64 z)).setCell ⟨w.heap.size + 1, 0, none⟩ (.int .i64 0)).heap[w.heap.size]? = _ := (Below.heap_setCell _ _ _ _ (by show w.heap.size ≠ w.heap.size + 1; omega)).trans h1
  have hle9 : Le w ((W.setCell ⟨w.heap.size, 0, none⟩ (.int .i64 z)).setCell ⟨w.heap.size + 1, 0, none⟩ (.int .i64 0)) := (Below.setCell hle1'.out (p := ⟨w.heap.size, 0, none⟩) (Nat.le_refl _) _).setCell (p := ⟨w.heap.size + 1, 0, none⟩) (by show w.heap.size ≤ w.heap.size + 1; omega) _
  have d1 := cell00 h4
  have d2 := cell00 h3
  refine leaves_cons (f := 49) (args := #[.pointer (some ⟨w.heap.size, 0, none⟩), .pointer (some ⟨w.heap.size + 1, 0, none⟩)]) (by simp) (by simp [go_sem]) ?_
  refine (run_int_idle _ _ _).mono ?_
  rintro e u' w'' ⟨rfl, rfl, rfl⟩
  simp [Leaves, settle, results, Try.results27, go_sem, d1, d2]
  exact hle9
theorem pf_run_int_err (g : FuncId) (cap : Array Value) (x : Int) (w : World) (hg : Plain Try.prog g) (hf : ∀ W, Le w W → Calls Try.prog g cap W fun e W' => e = .panicked [{ v := .iface 87 (.agg #[.int .i64 x]), recovered := false }] ∧ Le W W') :
    Calls Try.prog 27 #[.func (.func g) #[] cap] w fun e w' => e = .returned (.tuple #[.int .i64 0, .int .i64 x]) ∧ Le w w' := by
  have hmf : ∀ (fn : Fn) (first cap : Array Value) (w : World), (Instr.makeFunc fn first cap).run Try.prog w = .ok (.func fn first cap) w := fun _ _ _ _ => rfl
  unfold Plain at hg
  go_enter_defers Try.func27, Try.ntmps27
  go_wp2_with (fail)
  refine (hf _ ((le_alloc _ _).trans (le_alloc _ _))).mono ?_
  rintro e W ⟨rfl, hle⟩
  obtain ⟨hle1, hb, hq⟩ := box2_le hle
  have c1 := cell00 hb
  have f1 := frozen00 hb 0
  have c2 := cell00 hq
  have f2 := frozen00 hq 0
  have hle' := Lib.hid hle
  clear hle
  go_wp2
  refine leaves_cons (f := 49) (args := #[.pointer (some ⟨w.heap.size, 0, none⟩), .pointer (some ⟨w.heap.size + 1, 0, none⟩)]) (by simp) (by simp [go_sem]) ?_
  refine (run_int_caught w.heap.size x _ _ _ _ _ hb hq).mono ?_
  rintro e u' w'' ⟨rfl, rfl, d1, d2, hl⟩
  have hle9 := hl w hle1 (Nat.le_refl _)
  simp [Leaves, settle, results, Try.results27, go_sem, d1, d2]
  exact hle9
end Go.Proofs.Ytbikpadjmmgpcaa
namespace Go.Proofs.Ytbikpadjmmgpcaa
open Go.RowKit Go.Shelf
set_option linter.unusedVariables false
set_option linter.unusedSimpArgs false
set_option maxRecDepth 100000 in
set_option maxHeartbeats 1000000 in
theorem pf_in_no (L : Nat → Prop) (sn sd : Bool) (gn gd : List Nat) (vn vd : Value) (w : World) (hL : Up w L) (hn : ArrL L (gv .u32) w vn gn) (hd : ArrL L (gv .u32) w vd gd)
    (h : (isW sn gn && isW sd gd && !sd && decide (0 < gd.length)) = false) :
    Calls Try.prog 29 #[.agg #[.bool sn, vn, .bool sd, vd]] w fun e w' => e = .panicked [{ v := .iface 87 (.agg #[.int .i64 10]), recovered := false }] ∧ Le w w' := by
  have hn0 := hn
  have hd0 := hd
  obtain ⟨A1, c1, rfl, -, -, -, -⟩ := hn
  obtain ⟨A2, c2, rfl, -, -, -, -⟩ := hd
  have hL' := Lib.hid hL
  have hn0' := Lib.hid hn0
  have hd0' := Lib.hid hd0
  clear hd0 hn0 hL
  cases hwn : isW sn gn with
  | false =>
    have hwn' := Lib.hid hwn
    have h' := Lib.hid h
    clear h hwn
    go_enter Try.func29, Try.ntmps29
    go_wp2_with (fail)
    go_at_call 50
    refine (pf_isWhole L sn gn _ _ (hL'.out.le ((le_alloc _ _).trans (le_alloc _ _))) (hn0'.out.le ((le_alloc _ _).trans (le_alloc _ _)))).mono ?_
    rintro e W ⟨rfl, hle⟩
    rw [hwn'.out]
    obtain ⟨hle1, hbx, hby⟩ := box2_le hle
    have hle' := Lib.hid hle
    have hle1' := Lib.hid hle1
    have hbx' := Lib.hid hbx
    have hby' := Lib.hid hby
    clear hby hbx hle1 hle
    go_wp2_with (fail)
    go_at_call 44
    refine (pf_must_no _ _).mono ?_
    rintro e W3 ⟨rfl, rfl⟩
    go_wp2_with (fail)
    exact ⟨rfl, rfl, hle1'.out⟩
  | true =>
    rw [hwn, Bool.true_and] at h
    have hwn' := Lib.hid hwn
    clear hwn
    cases hwd : isW sd gd with
    | false =>
      have hwd' := Lib.hid hwd
      have h' := Lib.hid h
      clear h hwd
      go_enter Try.func29, Try.ntmps29
      go_wp2_with (fail)
      go_at_call 50
      refine (pf_isWhole L sn gn _ _ (hL'.out.le ((le_alloc _ _).trans (le_alloc _ _))) (hn0'.out.le ((le_alloc _ _).trans (le_alloc _ _)))).mono ?_
      rintro e W ⟨rfl, hle⟩
      rw [hwn'.out]
      obtain ⟨hle1, hbx, hby⟩ := box2_le hle
      obtain ⟨a0, a1, a2, a3⟩ := cells4 hbx
      have hUp1 := hL'.out.le hle1
      have hd1 := hd0'.out.le hle1
      have hle' := Lib.hid hle
      have hle1' := Lib.hid hle1
      have hbx' := Lib.hid hbx
      have hby' := Lib.hid hby
      have hUp1' := Lib.hid hUp1
      have hd1' := Lib.hid hd1
      clear hd1 hUp1 hby hbx hle1 hle
      go_wp2_with (fail)
      go_at_call 50
      refine (pf_isWhole L sd gd _ _ hUp1'.out hd1'.out).mono ?_
      rintro e W2 ⟨rfl, hle2⟩
      rw [hwd'.out]
      clear a0 a1 a2 a3
      have hle3 := Le.trans hle1'.out hle2
      have hle2' := Lib.hid hle2
      have hle3' := Lib.hid hle3
      clear hle3 hle2
      go_wp2_with (fail)
      go_at_call 44
      refine (pf_must_no _ _).mono ?_
      rintro e W3 ⟨rfl, rfl⟩
      go_wp2_with (fail)
      exact ⟨rfl, rfl, hle3'.out⟩
    | true =>
      rw [hwd, Bool.true_and] at h
      have hwd' := Lib.hid hwd
      clear hwd
      cases sd with
      | true =>
        have h' := Lib.hid h
        clear h
        go_enter Try.func29, Try.ntmps29
        go_wp2_with (fail)
        go_at_call 50
        refine (pf_isWhole L sn gn _ _ (hL'.out.le ((le_alloc _ _).trans (le_alloc _ _))) (hn0'.out.le ((le_alloc _ _).trans (le_alloc _ _)))).mono ?_
        rintro e W ⟨rfl, hle⟩
        rw [hwn'.out]
        obtain ⟨hle1, hbx, hby⟩ := box2_le hle
        obtain ⟨a0, a1, a2, a3⟩ := cells4 hbx
        have hUp1 := hL'.out.le hle1
        have hd1 := hd0'.out.le hle1
        have hle' := Lib.hid hle
        have hle1' := Lib.hid hle1
        have hbx' := Lib.hid hbx
        have hby' := Lib.hid hby
        have hUp1' := Lib.hid hUp1
        have hd1' := Lib.hid hd1
        clear hd1 hUp1 hby hbx hle1 hle
        go_wp2_with (fail)
        go_at_call 50
        refine (pf_isWhole L true gd _ _ hUp1'.out hd1'.out).mono ?_
        rintro e W2 ⟨rfl, hle2⟩
        rw [hwd'.out]
        clear a0 a1 a2 a3
        have hbx2 := (Below.block hle2 _ (Array.getElem?_eq_some_iff.1 hbx'.out).1).trans hbx'.out
        obtain ⟨a0, a1, a2, a3⟩ := cells4 hbx2
        have hle3 := Le.trans hle1'.out hle2
        have hle2' := Lib.hid hle2
        have hle3' := Lib.hid hle3
        have hbx2' := Lib.hid hbx2
        clear hbx2 hle3 hle2
        go_wp2_with (fail)
        go_at_call 44
        refine (pf_must_no _ _).mono ?_
        rintro e W3 ⟨rfl, rfl⟩
        go_wp2_with (fail)
        exact ⟨rfl, rfl, hle3'.out⟩
      | false =>
        have h0 : gd.length = 0 := by simpa using h
        have hi0 : ¬ 0 < (gd.length : Int) := by omega
        have hi1 : ¬ 0 < gd.length := by omega
        have h' := Lib.hid h
        have h0' := Lib.hid h0
        clear h0 h
        go_enter Try.func29, Try.ntmps29
        go_wp2_with (fail)
        go_at_call 50
        refine (pf_isWhole L sn gn _ _ (hL'.out.le ((le_alloc _ _).trans (le_alloc _ _))) (hn0'.out.le ((le_alloc _ _).trans (le_alloc _ _)))).mono ?_
        rintro e W ⟨rfl, hle⟩
        rw [hwn'.out]
        obtain ⟨hle1, hbx, hby⟩ := box2_le hle
        obtain ⟨a0, a1, a2, a3⟩ := cells4 hbx
        have hUp1 := hL'.out.le hle1
        have hd1 := hd0'.out.le hle1
        have hle' := Lib.hid hle
        have hle1' := Lib.hid hle1
        have hbx' := Lib.hid hbx
        have hby' := Lib.hid hby
        have hUp1' := Lib.hid hUp1
        have hd1' := Lib.hid hd1
        clear hd1 hUp1 hby hbx hle1 hle
        go_wp2_with (fail)
        go_at_call 50
        refine (pf_isWhole L false gd _ _ hUp1'.out hd1'.out).mono ?_
        rintro e W2 ⟨rfl, hle2⟩
        rw [hwd'.out]
        clear a0 a1 a2 a3
        have hbx2 := (Below.block hle2 _ (Array.getElem?_eq_some_iff.1 hbx'.out).1).trans hbx'.out
        obtain ⟨a0, a1, a2, a3⟩ := cells4 hbx2
        have hle3 := Le.trans hle1'.out hle2
        have hle2' := Lib.hid hle2
        have hle3' := Lib.hid hle3
        have hbx2' := Lib.hid hbx2
        clear hbx2 hle3 hle2
        go_wp2_with (fail)
        go_at_call 44
        refine (pf_must_no _ _).mono ?_
        rintro e W3 ⟨rfl, rfl⟩
        go_wp2_with (fail)
        exact ⟨rfl, rfl, hle3'.out⟩
set_option maxRecDepth 100000 in
set_option maxHeartbeats 1000000 in
theorem pf_in_gcd (L : Nat → Prop) (sr : Bool) (n d : Nat) (vn vd : Value) (w : World) (hL : Up w L) (hn : NumL L .u32 w vn n) (hd : NumL L .u32 w vd d) (hd0 : d ≠ 0) (hsn : isW sr (dg n) = true) (hsd : isW false (dg d) = true) (hs1 : (dg n).length ≤ 40) (hs2 : (dg d).length ≤ 40) (hgcd : Nat.gcd n d ≠ 1) :
    Calls Try.prog 29 #[.agg #[.bool sr, vn, .bool false, vd]] w fun e w' => e = .panicked [{ v := .iface 87 (.agg #[.int .i64 10]), recovered := false }] ∧ Le w w' := by
  have hn0 := hn
  have hdd := hd
  obtain ⟨A1, c1, rfl⟩ := hn.slice
  obtain ⟨A2, c2, rfl⟩ := hd.slice
  have hlpos : 0 < (dg d).length := dg_length_pos.2 hd0
  have hlposI : 0 < ((dg d).length : Int) := by omega
  have hL' := Lib.hid hL
  have hn' := Lib.hid hn
  have hd' := Lib.hid hd
  have hn0' := Lib.hid hn0
  have hdd' := Lib.hid hdd
  have hsn' := Lib.hid hsn
  have hsd' := Lib.hid hsd
  have hgcd' := Lib.hid hgcd
  clear hgcd hsd hsn hdd hn0 hd hn hL
  go_enter Try.func29, Try.ntmps29
  go_wp2_with (fail)
  go_at_call 50
  refine (pf_isWhole L sr (dg n) _ _ (hL'.out.le ((le_alloc _ _).trans (le_alloc _ _))) (hn0'.out.le ((le_alloc _ _).trans (le_alloc _ _)))).mono ?_
  rintro e W ⟨rfl, hle⟩
  rw [hsn'.out]
  obtain ⟨hle1, hbx, hby⟩ := box2_le hle
  obtain ⟨a0, a1, a2, a3⟩ := cells4 hbx
  have hUp1 := hL'.out.le hle1
  have hd1 := hdd'.out.le hle1
  have hle' := Lib.hid hle
  have hle1' := Lib.hid hle1
  have hbx' := Lib.hid hbx
  have hby' := Lib.hid hby
  have hUp1' := Lib.hid hUp1
  have hd1' := Lib.hid hd1
  clear hd1 hUp1 hby hbx hle1 hle
  go_wp2_with (fail)
  go_at_call 50
  refine (pf_isWhole L false (dg d) _ _ hUp1'.out hd1'.out).mono ?_
  rintro e W2 ⟨rfl, hle2⟩
  rw [hsd'.out]
  clear a0 a1 a2 a3
  have hlt := (Array.getElem?_eq_some_iff.1 hbx'.out).1
  have hlt1 := (Array.getElem?_eq_some_iff.1 hby'.out).1
  have hbx2 := (Below.block hle2 _ hlt).trans hbx'.out
  have hby2 := (Below.block hle2 _ hlt1).trans hby'.out
  obtain ⟨a0, a1, a2, a3⟩ := cells4 hbx2
  have hle3 := Le.trans hle1'.out hle2
  have hsz := Below.size hle2
  have hle2' := Lib.hid hle2
  have hbx2' := Lib.hid hbx2
  have hby2' := Lib.hid hby2
  have hle3' := Lib.hid hle3
  clear hle3 hby2 hbx2 hle2
  go_wp2_with (fail)
  go_at_call 44
  refine (pf_must_ok _ _).mono ?_
  rintro e W3 ⟨rfl, rfl⟩
  go_wp2_with (fail)
  go_at_call 51
  refine (pf_common L n d _ _ _ (hL'.out.le (hle3'.out.trans (le_alloc _ _))) (hn0'.out.le (hle3'.out.trans (le_alloc _ _))) (hdd'.out.le (hle3'.out.trans (le_alloc _ _))) (by omega) (by omega)).mono ?_
  rintro e W4 ⟨vg, rfl, hle4, hg⟩
  obtain ⟨g, hgg⟩ : ∃ g, Nat.gcd n d = g := ⟨_, rfl⟩
  rw [hgg] at hg
  have hdec : decide (g = 1) = false := decide_eq_false (by rw [← hgg]; exact hgcd'.out)
  obtain ⟨G, c3, rfl⟩ := hg.slice
  obtain ⟨hle5, hbz⟩ := box_le hle4
  have hle6 := Le.trans hle3'.out hle5
  have hby4 := (Below.block hle5 _ (Array.getElem?_eq_some_iff.1 hby2'.out).1).trans hby2'.out
  obtain ⟨z0, z1, z2, g0, g1, g2⟩ := cells3 hbz
  obtain ⟨y0, y1, y2, k0, k1, k2⟩ := cells3 hby4
  have hle4' := Lib.hid hle4
  have hg' := Lib.hid hg
  have hgg' := Lib.hid hgg
  have hle5' := Lib.hid hle5
  have hbz' := Lib.hid hbz
  have hle6' := Lib.hid hle6
  have hby4' := Lib.hid hby4
  clear hby4 hle6 hbz hle5 hgg hg hle4
  clear a0 a1 a2 a3
  go_wp2_with (fail)
  go_at_call 52
  refine (pf_one L g _ W4 hg'.out).mono ?_
  rintro e W5 ⟨rfl, rfl⟩
  go_wp2_with (fail)
  go_at_call 44
  refine (pf_must_no _ _).mono ?_
  rintro e W6 ⟨rfl, rfl⟩
  go_wp2_with (fail)
  exact ⟨rfl, rfl, hle6'.out⟩
end Go.Proofs.Ytbikpadjmmgpcaa
