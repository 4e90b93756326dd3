/- exact, turning numbers: combined's closure. exact, turning numbers: combined, AddTurn, MulTurn, DivTurn. -/
import Derived.Test.YtpjmbgfggonhhaaGreatTrnA
import Derived.Test.YtpjmbgfggonhhaaGreatRunTurn
import Derived.Test.YtpjmbgfggonhhaaGreatTrnB
namespace Go.Proofs.YtpjmbgfggonhhaaGreat
open Go.RowKit Go.Shelf
set_option linter.unusedVariables false
set_option linter.unusedSimpArgs false
theorem plain_combined1 : Plain Tryz.prog 57 := fun _ _ => by kernel_rfl
set_option maxRecDepth 100000 in
set_option maxHeartbeats 4000000 in
theorem pf_combined1 (x y : FracA × FracA) (f : G2 → G2 → Except Int G2) (g : FuncId) (Bx By Bo : Nat) (w : World) (hx : ABox w Bx x) (hy : ABox w By y) (t : TypeId) (ho : w.heap[Bo]? = some (.cells #[.func (.func g) #[] #[]] t)) (hg : Plain Tryz.prog g) (hop : OpOkT Tryz.prog g f) :
    Calls Tryz.prog 57 #[.pointer (some ⟨Bx, 0, none⟩), .pointer (some ⟨By, 0, none⟩), .pointer (some ⟨Bo, 0, none⟩)] w (OperPostT (opG f x y) w) := by
  obtain ⟨W0, hW0, hle, k0⟩ : ∃ W0, w.alloc (.cells #[.bool false, .slice none 0 0, .bool false, .slice none 0 0, .bool false, .slice none 0 0, .bool false, .slice none 0 0] 28) = W0 ∧ Le w W0 ∧ W0.heap[w.heap.size]? = some (.cells #[.bool false, .slice none 0 0, .bool false, .slice none 0 0, .bool false, .slice none 0 0, .bool false, .slice none 0 0] 28) := ⟨_, rfl, le_alloc _ _, by unfold World.alloc; exact Array.getElem?_push_size⟩
  have hol := (Array.getElem?_eq_some_iff.1 ho).1
  have hxl := hx.lt
  have hyl := hy.lt
  have ho1 := box_later hle ho
  have hx1 := hx.le hle
  have hy1 := hy.le hle
  obtain ⟨x1A, x1c, x1B, x1d, x2A, x2c, x2B, x2d, kx, hx2, hx3⟩ := hx1
  obtain ⟨y1A, y1c, y1B, y1d, y2A, y2c, y2B, y2d, ky, hy2, hy3⟩ := hy1
  have hxa := IsTurnA.mk hx2 hx3
  have hya := IsTurnA.mk hy2 hy3
  obtain ⟨ca0, ca1, ca2, ca3, ca4, ca5, ca6, ca7⟩ := cells8 kx
  obtain ⟨cb0, cb1, cb2, cb3, cb4, cb5, cb6, cb7⟩ := cells8 ky
  have hs0 := hle.size
  have hkl := (Array.getElem?_eq_some_iff.1 k0).1
  obtain ⟨res, hres⟩ : ∃ res, opG f x y = res := ⟨_, rfl⟩
  rw [hres]
  unfold Plain at hg
  have hx' := Lib.hid hx
  have hy' := Lib.hid hy
  have hle' := Lib.hid hle
  have k0' := Lib.hid k0
  have ho' := Lib.hid ho
  have ho1' := Lib.hid ho1
  have kx' := Lib.hid kx
  have ky' := Lib.hid ky
  have hx2' := Lib.hid hx2
  have hx3' := Lib.hid hx3
  have hy2' := Lib.hid hy2
  have hy3' := Lib.hid hy3
  have hxa' := Lib.hid hxa
  have hya' := Lib.hid hya
  have hop' := Lib.hid hop
  have hres' := Lib.hid hres
  have hg' := Lib.hid hg
  clear hg hres hop hya hxa hy3 hy2 hx3 hx2 ky kx ho1 ho k0 hle hy hx
  go_enter Tryz.func57, Tryz.ntmps57
  go_wp2_with (fail)
  clear hW0
  refine wp_region_GT (R := leRel) 6 [some 6, some 7, some 8, some 9, some 4, some 5, none, none] [[], [0], [], [2], [], [], [1, 4], [3, 5]]
    [.eq (.agg #[.bool x.1.sn, .slice x1A x.1.gn.length x1c, .bool x.1.sd, .slice x1B x.1.gd.length x1d, .bool x.2.sn, .slice x2A x.2.gn.length x2c, .bool x.2.sd, .slice x2B x.2.gd.length x2d]), MPred.turnO x, .eq (.agg #[.bool y.1.sn, .slice y1A y.1.gn.length y1c, .bool y.1.sd, .slice y1B y.1.gd.length y1d, .bool y.2.sn, .slice y2A y.2.gn.length y2c, .bool y.2.sd, .slice y2B y.2.gd.length y2d]), MPred.turnO y, MPred.box W0.heap.size (.cells #[.bool false, .slice none 0 0, .slice none 0 0, .bool false, .slice none 0 0, .slice none 0 0] 56), MPred.box W0.heap.size (.cells #[.bool false, .slice none 0 0, .slice none 0 0, .bool false, .slice none 0 0, .slice none 0 0] 56)] (TwoG 4 5) (fun ch W => ch = flt 10 ∧ (tval x = none ∨ tval y = none) ∧ Le W0 W) (by kernel_rfl) (by kernel_rfl) (by kernel_rfl) (by kernel_rfl) (by kernel_rfl) (fun D x' hD => TwoG.start (hD 4 (by decide)) (hD 5 (by decide))) ?_ (by rintro a9 ch W hdf ⟨rfl, hbad, hle9⟩; exact ⟨hdf, hle'.out.trans hle9, .inr ⟨10, by rw [← hres'.out]; exact opG_bad hbad, rfl⟩⟩) ?_
  · simp only [List.take_succ_cons, List.take_zero]
    refine stepsG_cons rfl ?_ (stepsG_cons rfl ?_ (stepsG_cons rfl ?_ (stepsG_cons rfl ?_ (stepsG_cons rfl ?_ (stepsG_cons rfl ?_ (stepsG_nil))))))
    · intro D xv W hD hdn hR hf hG Q hK hP
      have cc0 := (Below.cell hR (p := ⟨Bx, 0, none⟩) (by show Bx < W0.heap.size; omega)).trans ca0
      have cc1 := (Below.cell hR (p := ⟨Bx, 1, none⟩) (by show Bx < W0.heap.size; omega)).trans ca1
      have cc2 := (Below.cell hR (p := ⟨Bx, 2, none⟩) (by show Bx < W0.heap.size; omega)).trans ca2
      have cc3 := (Below.cell hR (p := ⟨Bx, 3, none⟩) (by show Bx < W0.heap.size; omega)).trans ca3
      have cc4 := (Below.cell hR (p := ⟨Bx, 4, none⟩) (by show Bx < W0.heap.size; omega)).trans ca4
      have cc5 := (Below.cell hR (p := ⟨Bx, 5, none⟩) (by show Bx < W0.heap.size; omega)).trans ca5
      have cc6 := (Below.cell hR (p := ⟨Bx, 6, none⟩) (by show Bx < W0.heap.size; omega)).trans ca6
      have cc7 := (Below.cell hR (p := ⟨Bx, 7, none⟩) (by show Bx < W0.heap.size; omega)).trans ca7
      simp only [fillAct, List.getD_cons_succ, List.getD_cons_zero, Act.put, List.setIfInBounds_toArray, List.set_cons_succ, List.set_cons_zero] at hK ⊢
      go_wp2
      exact hK _ _ (leRel.refl _) rfl (hG.quiet (Le.refl _) (by decide) (by decide))
    · intro D xv W hD hdn hR hf hG Q hK hP
      obtain ⟨e0, -⟩ := hf
      change _ = _ at e0
      simp only [fillAct, List.getD_cons_succ, List.getD_cons_zero, Act.put, List.setIfInBounds_toArray, List.set_cons_succ, List.set_cons_zero, e0] at hK ⊢
      rcases tval_cases x with ⟨r, hs⟩ | hs
      · have hcall := pf_inTurn_ok x r _ W (hxa'.out.le hR) hs
        have hcall' := Lib.hid hcall
        have hR' := Lib.hid hR
        have hs' := Lib.hid hs
        have hG' := Lib.hid hG
        clear hG hs hR hcall
        go_wp2_with (fail)
        go_at_call 37
        refine hcall'.out.mono ?_
        rintro e w' ⟨v', rfl, y1, y2⟩
        obtain ⟨zs1, zA1, zn1, zc1, zB1, zm1, zd1, zs2, zA2, zn2, zc2, zB2, zm2, zd2, qz⟩ := y2.form
        subst qz
        have y2' := Lib.hid y2
        clear y2
        go_wp2
        exact hK _ _ y1 ⟨_, hs'.out, y2'.out⟩ (hG'.out.quiet y1 (by decide) (by decide))
      · have hcall := pf_inTurn_no x _ W (hxa'.out.le hR) hs
        have hcall' := Lib.hid hcall
        have hR' := Lib.hid hR
        have hs' := Lib.hid hs
        have hG' := Lib.hid hG
        clear hG hs hR hcall
        go_wp2_with (fail)
        go_at_call 37
        refine hcall'.out.mono ?_
        rintro e w' ⟨rfl, y1⟩
        go_wp2_with (fail)
        exact hP _ _ _ ⟨rfl, .inl hs'.out, hR'.out.trans y1⟩
    · intro D xv W hD hdn hR hf hG Q hK hP
      have cc0 := (Below.cell hR (p := ⟨By, 0, none⟩) (by show By < W0.heap.size; omega)).trans cb0
      have cc1 := (Below.cell hR (p := ⟨By, 1, none⟩) (by show By < W0.heap.size; omega)).trans cb1
      have cc2 := (Below.cell hR (p := ⟨By, 2, none⟩) (by show By < W0.heap.size; omega)).trans cb2
      have cc3 := (Below.cell hR (p := ⟨By, 3, none⟩) (by show By < W0.heap.size; omega)).trans cb3
      have cc4 := (Below.cell hR (p := ⟨By, 4, none⟩) (by show By < W0.heap.size; omega)).trans cb4
      have cc5 := (Below.cell hR (p := ⟨By, 5, none⟩) (by show By < W0.heap.size; omega)).trans cb5
      have cc6 := (Below.cell hR (p := ⟨By, 6, none⟩) (by show By < W0.heap.size; omega)).trans cb6
      have cc7 := (Below.cell hR (p := ⟨By, 7, none⟩) (by show By < W0.heap.size; omega)).trans cb7
      simp only [fillAct, List.getD_cons_succ, List.getD_cons_zero, Act.put, List.setIfInBounds_toArray, List.set_cons_succ, List.set_cons_zero] at hK ⊢
      go_wp2
      exact hK _ _ (leRel.refl _) rfl (hG.quiet (Le.refl _) (by decide) (by decide))
    · intro D xv W hD hdn hR hf hG Q hK hP
      obtain ⟨e0, -⟩ := hf
      change _ = _ at e0
      simp only [fillAct, List.getD_cons_succ, List.getD_cons_zero, Act.put, List.setIfInBounds_toArray, List.set_cons_succ, List.set_cons_zero, e0] at hK ⊢
      rcases tval_cases y with ⟨r, hs⟩ | hs
      · have hcall := pf_inTurn_ok y r _ W (hya'.out.le hR) hs
        have hcall' := Lib.hid hcall
        have hR' := Lib.hid hR
        have hs' := Lib.hid hs
        have hG' := Lib.hid hG
        clear hG hs hR hcall
        go_wp2_with (fail)
        go_at_call 37
        refine hcall'.out.mono ?_
        rintro e w' ⟨v', rfl, y1, y2⟩
        obtain ⟨zs1, zA1, zn1, zc1, zB1, zm1, zd1, zs2, zA2, zn2, zc2, zB2, zm2, zd2, qz⟩ := y2.form
        subst qz
        have y2' := Lib.hid y2
        clear y2
        go_wp2
        exact hK _ _ y1 ⟨_, hs'.out, y2'.out⟩ (hG'.out.quiet y1 (by decide) (by decide))
      · have hcall := pf_inTurn_no y _ W (hya'.out.le hR) hs
        have hcall' := Lib.hid hcall
        have hR' := Lib.hid hR
        have hs' := Lib.hid hs
        have hG' := Lib.hid hG
        clear hG hs hR hcall
        go_wp2_with (fail)
        go_at_call 37
        refine hcall'.out.mono ?_
        rintro e w' ⟨rfl, y1⟩
        go_wp2_with (fail)
        exact hP _ _ _ ⟨rfl, .inr hs'.out, hR'.out.trans y1⟩
    · intro D xv W hD hdn hR hf hG Q hK hP
      simp only [fillAct, List.getD_cons_succ, List.getD_cons_zero, Act.put, List.setIfInBounds_toArray, List.set_cons_succ, List.set_cons_zero] at hK ⊢
      have hs9 := hR.size
      go_wp2
      exact hK _ _ (le_alloc _ _) ⟨_, rfl, hs9, by unfold World.alloc; exact Array.getElem?_push_size⟩ (hG.left (by decide))
    · intro D xv W hD hdn hR hf hG Q hK hP
      simp only [fillAct, List.getD_cons_succ, List.getD_cons_zero, Act.put, List.setIfInBounds_toArray, List.set_cons_succ, List.set_cons_zero] at hK ⊢
      have hs9 := hR.size
      go_wp2
      exact hK _ _ (le_alloc _ _) ⟨_, rfl, hs9, by unfold World.alloc; exact Array.getElem?_push_size⟩ (hG.right (by decide))
  · intro D xv W hD hR hf hG Q' hQ1 _
    obtain ⟨a, hta, ha⟩ := hf 1 (by decide)
    obtain ⟨b, htb, hb⟩ := hf 3 (by decide)
    replace ha : TurnL .u32 W (xv 1) a := ha
    replace hb : TurnL .u32 W (xv 3) b := hb
    obtain ⟨k4, q4, hk4, hx4⟩ := hf 4 (by decide)
    obtain ⟨k5, q5, hk5, hx5⟩ := hf 5 (by decide)
    replace q4 : xv 4 = _ := q4
    replace q5 : xv 5 = _ := q5
    have hne := hG.ne (hD 4 (by decide)) (hD 5 (by decide))
    rw [q4, q5] at hne
    have hne2 : k5 ≠ k4 := fun h => hne (by rw [h])
    obtain ⟨as1, aA1, an1, ac1, aB1, am1, ad1, as2, aA2, an2, ac2, aB2, am2, ad2, qa, a1, a2⟩ := ha
    obtain ⟨bs1, bA1, bn1, bc1, bB1, bm1, bd1, bs2, bA2, bn2, bc2, bB2, bm2, bd2, qb, b1, b2⟩ := hb
    simp only [List.drop_succ_cons, List.drop_zero]
    rw [show List.range 6 = [0, 1, 2, 3, 4, 5] from rfl]
    simp only [fillAct, List.getD_cons_succ, List.getD_cons_zero, Act.put, List.setIfInBounds_toArray, List.set_cons_succ, List.set_cons_zero, qa, qb, q4, q5]
    clear qa qb q4 q5 hf hG hD hne
    obtain ⟨V1, hV1, hle1, j4, j5, ia1, ia2, ib1, ib2⟩ : ∃ V1, ((((((W.setCell ⟨k4, 0, none⟩ (.bool as1)).setCell ⟨k4, 1, none⟩ (.slice aA1 an1 ac1)).setCell ⟨k4, 2, none⟩ (.slice aB1 am1 ad1)).setCell ⟨k4, 3, none⟩ (.bool as2)).setCell ⟨k4, 4, none⟩ (.slice aA2 an2 ac2)).setCell ⟨k4, 5, none⟩ (.slice aB2 am2 ad2)) = V1 ∧ Le W0 V1 ∧ V1.heap[k4]? = some (.cells #[.bool as1, .slice aA1 an1 ac1, .slice aB1 am1 ad1, .bool as2, .slice aA2 an2 ac2, .slice aB2 am2 ad2] 56) ∧ V1.heap[k5]? = some (.cells #[.bool false, .slice none 0 0, .slice none 0 0, .bool false, .slice none 0 0, .slice none 0 0] 56) ∧ RatT .u32 V1 (.agg #[.bool as1, .slice aA1 an1 ac1, .slice aB1 am1 ad1]) a.1 ∧ RatT .u32 V1 (.agg #[.bool as2, .slice aA2 an2 ac2, .slice aB2 am2 ad2]) a.2 ∧ RatT .u32 V1 (.agg #[.bool bs1, .slice bA1 bn1 bc1, .slice bB1 bm1 bd1]) b.1 ∧ RatT .u32 V1 (.agg #[.bool bs2, .slice bA2 bn2 bc2, .slice bB2 bm2 bd2]) b.2 :=
      ⟨_, rfl, le_set6 hR hk4 _ _ _ _ _ _, heap_set6 hx4 _ _ _ _ _ _, ((touch_set6 _ _ _ _ _ _ _ _).2.1 k5 hne2).trans hx5, a1.touch (noInt6 hx4) (touch_set6 _ _ _ _ _ _ _ _), a2.touch (noInt6 hx4) (touch_set6 _ _ _ _ _ _ _ _), b1.touch (noInt6 hx4) (touch_set6 _ _ _ _ _ _ _ _), b2.touch (noInt6 hx4) (touch_set6 _ _ _ _ _ _ _ _)⟩
    obtain ⟨V2, hV2, hle2, l4, l5, ja1, ja2, jb1, jb2⟩ : ∃ V2, ((((((V1.setCell ⟨k5, 0, none⟩ (.bool bs1)).setCell ⟨k5, 1, none⟩ (.slice bA1 bn1 bc1)).setCell ⟨k5, 2, none⟩ (.slice bB1 bm1 bd1)).setCell ⟨k5, 3, none⟩ (.bool bs2)).setCell ⟨k5, 4, none⟩ (.slice bA2 bn2 bc2)).setCell ⟨k5, 5, none⟩ (.slice bB2 bm2 bd2)) = V2 ∧ Le W0 V2 ∧ V2.heap[k4]? = some (.cells #[.bool as1, .slice aA1 an1 ac1, .slice aB1 am1 ad1, .bool as2, .slice aA2 an2 ac2, .slice aB2 am2 ad2] 56) ∧ V2.heap[k5]? = some (.cells #[.bool bs1, .slice bA1 bn1 bc1, .slice bB1 bm1 bd1, .bool bs2, .slice bA2 bn2 bc2, .slice bB2 bm2 bd2] 56) ∧ RatT .u32 V2 (.agg #[.bool as1, .slice aA1 an1 ac1, .slice aB1 am1 ad1]) a.1 ∧ RatT .u32 V2 (.agg #[.bool as2, .slice aA2 an2 ac2, .slice aB2 am2 ad2]) a.2 ∧ RatT .u32 V2 (.agg #[.bool bs1, .slice bA1 bn1 bc1, .slice bB1 bm1 bd1]) b.1 ∧ RatT .u32 V2 (.agg #[.bool bs2, .slice bA2 bn2 bc2, .slice bB2 bm2 bd2]) b.2 :=
      ⟨_, rfl, le_set6 hle1 hk5 _ _ _ _ _ _, ((touch_set6 _ _ _ _ _ _ _ _).2.1 k4 (Ne.symm hne2)).trans j4, heap_set6 j5 _ _ _ _ _ _, ia1.touch (noInt6 j5) (touch_set6 _ _ _ _ _ _ _ _), ia2.touch (noInt6 j5) (touch_set6 _ _ _ _ _ _ _ _), ib1.touch (noInt6 j5) (touch_set6 _ _ _ _ _ _ _ _), ib2.touch (noInt6 j5) (touch_set6 _ _ _ _ _ _ _ _)⟩
    have hne3 : ¬ k5 = k4 := hne2
    have hne4 : ¬ k4 = k5 := fun h => hne2 h.symm
    obtain ⟨z0, z1, z2, z3, z4, z5⟩ := cells6 hx4
    have g0 := frozen00 hx4 0
    have g1 := frozen00 hx4 1
    have g2 := frozen00 hx4 2
    have g3 := frozen00 hx4 3
    have g4 := frozen00 hx4 4
    have g5 := frozen00 hx4 5
    obtain ⟨u0, u1, u2, u3, u4, u5⟩ := cells6 j5
    have f0 := frozen00 j5 0
    have f1 := frozen00 j5 1
    have f2 := frozen00 j5 2
    have f3 := frozen00 j5 3
    have f4 := frozen00 j5 4
    have f5 := frozen00 j5 5
    obtain ⟨d0, d1, d2, d3, d4, d5⟩ := cells6 l4
    obtain ⟨e0, e1, e2, e3, e4, e5⟩ := cells6 l5
    have hl4 := (Array.getElem?_eq_some_iff.1 l4).1
    have hl5 := (Array.getElem?_eq_some_iff.1 l5).1
    have hoV := box_later hle2 ho1'.out
    have kV := box_later hle2 k0'.out
    have co := cell00 hoV
    have hleV := hle'.out.trans hle2
    have hopr := opG_some (f := f) hta htb
    rw [hres'.out] at hopr
    have hcall := hop'.out a b _ _ V2 (tval_sz hta) (tval_sz htb) (TurnL.mk ja1 ja2) (TurnL.mk jb1 jb2)
    rw [← hopr] at hcall
    have hR' := Lib.hid hR
    have hle1' := Lib.hid hle1
    have hle2' := Lib.hid hle2
    have hx4' := Lib.hid hx4
    have hx5' := Lib.hid hx5
    have j4' := Lib.hid j4
    have j5' := Lib.hid j5
    have l4' := Lib.hid l4
    have l5' := Lib.hid l5
    have a1' := Lib.hid a1
    have a2' := Lib.hid a2
    have b1' := Lib.hid b1
    have b2' := Lib.hid b2
    have ia1' := Lib.hid ia1
    have ia2' := Lib.hid ia2
    have ib1' := Lib.hid ib1
    have ib2' := Lib.hid ib2
    have ja1' := Lib.hid ja1
    have ja2' := Lib.hid ja2
    have jb1' := Lib.hid jb1
    have jb2' := Lib.hid jb2
    have hta' := Lib.hid hta
    have htb' := Lib.hid htb
    have hoV' := Lib.hid hoV
    have kV' := Lib.hid kV
    have hleV' := Lib.hid hleV
    have hopr' := Lib.hid hopr
    have hcall' := Lib.hid hcall
    clear hcall hopr hleV kV hoV htb hta jb2 jb1 ja2 ja1 ib2 ib1 ia2 ia1 b2 b1 a2 a1 l5 l4 j5 j4 hx5 hx4 hle2 hle1 hR
    go_wp2
    clear z0 z1 z2 z3 z4 z5 g0 g1 g2 g3 g4 g5 u0 u1 u2 u3 u4 u5 f0 f1 f2 f3 f4 f5
    refine hQ1 _ _ ?_
    clear hV1 hV2 hQ1
    have hg := hg'.out
    go_wp2_with (fail)
    refine hcall'.out.mono ?_
    rintro e V3 ⟨hle3, ⟨r, v3, hr, rfl, hr3⟩ | ⟨c9, hr, rfl⟩⟩
    · have kV3 := box_later hle3 kV'.out
      have hle03 := hleV'.out.trans hle3
      have hr4 := hr3
      obtain ⟨ts1, tA1, tn1, tc1, tB1, tm1, td1, ts2, tA2, tn2, tc2, tB2, tm2, td2, rfl, -, -⟩ := hr3
      clear d0 d1 d2 d3 d4 d5 e0 e1 e2 e3 e4 e5 co hg
      have hle3' := Lib.hid hle3
      have hr4' := Lib.hid hr4
      have kV3' := Lib.hid kV3
      have hle03' := Lib.hid hle03
      have hr' := Lib.hid hr
      clear hr hle03 kV3 hr4 hle3
      rcases Classical.em (TSz (r) 40) with hs | hs
      · have hout := pf_outTurn_ok (r) _ V3 hr4'.out hs
        have hout' := Lib.hid hout
        have hs' := Lib.hid hs
        clear hs hout
        go_wp2_with (fail)
        go_at_call 48
        refine hout'.out.mono ?_
        rintro e W8 ⟨v8, rfl, hle8, h8⟩
        obtain ⟨rs1, rA1, rn1, rc1, rt1, rB1, rm1, rd1, rs2, rA2, rn2, rc2, rt2, rB2, rm2, rd2, rfl, y1, y2⟩ := h8
        have k8 := box_later hle8 kV3'.out
        have hl8 := hle03'.out.trans hle8
        have hle8' := Lib.hid hle8
        have y1' := Lib.hid y1
        have y2' := Lib.hid y2
        have hl8' := Lib.hid hl8
        clear hl8 y2 y1 hle8
        obtain ⟨z0, z1, z2, z3, z4, z5, z6, z7⟩ := cells8 k8
        have g0 := frozen00 k8 0
        have g1 := frozen00 k8 1
        have g2 := frozen00 k8 2
        have g3 := frozen00 k8 3
        have g4 := frozen00 k8 4
        have g5 := frozen00 k8 5
        have g6 := frozen00 k8 6
        have g7 := frozen00 k8 7
        have hle9 := fun u0 u1 u2 u3 u4 u5 u6 u7 => le_set8 (hl8'.out) (show w.heap.size ≤ w.heap.size by omega) u0 u1 u2 u3 u4 u5 u6 u7
        have hb9 := fun u0 u1 u2 u3 u4 u5 u6 u7 => cells8 (heap_set8 k8 u0 u1 u2 u3 u4 u5 u6 u7)
        simp only [set8] at hb9
        have hfin := fun u0 u1 u2 u3 u4 u5 u6 u7 => And.intro (y1'.out.touch (noInt8 k8) (touch_set8 W8 (w.heap.size) u0 u1 u2 u3 u4 u5 u6 u7)) (y2'.out.touch (noInt8 k8) (touch_set8 W8 (w.heap.size) u0 u1 u2 u3 u4 u5 u6 u7))
        have hle9' := Lib.hid hle9
        have hb9' := Lib.hid hb9
        have hfin' := Lib.hid hfin
        have k8' := Lib.hid k8
        clear k8 hfin hb9 hle9
        go_wp2
        obtain ⟨d0, d1, d2, d3, d4, d5, d6, d7⟩ := hb9'.out (.bool rs1) (.slice rA1 rn1 rc1) (.bool rt1) (.slice rB1 rm1 rd1) (.bool rs2) (.slice rA2 rn2 rc2) (.bool rt2) (.slice rB2 rm2 rd2)
        exact bodyPost_ret (v := .agg #[.bool rs1, .slice rA1 rn1 rc1, .bool rt1, .slice rB1 rm1 rd1, .bool rs2, .slice rA2 rn2 rc2, .bool rt2, .slice rB2 rm2 rd2]) (by simp [results, Tryz.results57, go_sem, d0, d1, d2, d3, d4, d5, d6, d7]) rfl ⟨hle9'.out _ _ _ _ _ _ _ _, .inl ⟨_, _, by rw [hr'.out, outG_ok hs'.out], rfl, TurnF.mk (hfin'.out _ _ _ _ _ _ _ _).1 (hfin'.out _ _ _ _ _ _ _ _).2⟩⟩
      · have hout := pf_outTurn_no (r) _ V3 hr4'.out hs
        have hout' := Lib.hid hout
        have hs' := Lib.hid hs
        clear hs hout
        go_wp2_with (fail)
        go_at_call 48
        refine hout'.out.mono ?_
        rintro e W8 ⟨rfl, hle8⟩
        go_wp2_with (fail)
        exact ⟨rfl, hle03'.out.trans hle8, .inr ⟨12, by rw [hr'.out, outG_no hs'.out], rfl⟩⟩
    · have hle03 := hleV'.out.trans hle3
      have hr' := Lib.hid hr
      have hle3' := Lib.hid hle3
      have hle03' := Lib.hid hle03
      clear hle03 hle3 hr
      go_wp2_with (fail)
      exact ⟨rfl, hle03'.out, .inr ⟨c9, hr'.out, rfl⟩⟩
end Go.Proofs.YtpjmbgfggonhhaaGreat
namespace Go.Proofs.YtpjmbgfggonhhaaGreat
open Go.RowKit Go.Shelf
set_option linter.unusedVariables false
set_option linter.unusedSimpArgs false
theorem pf_run_aturn (res : Except Int G2) (g : FuncId) (cap : Array Value) (w : World) (hg : Plain Tryz.prog g) (hf : ∀ W, Le w W → Calls Tryz.prog g cap W (OperPostT res W)) :
    Calls Tryz.prog 45 #[.func (.func g) #[] cap] w (ResPostT res w) := by
  cases res with
  | ok r =>
    refine (pf_run_aturn_ok r g cap w hg fun W hW => (hf W hW).mono fun e W' h => h.ok).mono ?_
    rintro e w' ⟨v, rfl, hle, h⟩
    exact ⟨hle, v, 0, rfl, h, rfl⟩
  | error c =>
    refine (pf_run_aturn_err c g cap w hg fun W hW => (hf W hW).mono fun e W' h => h.err).mono ?_
    rintro e w' ⟨rfl, hle⟩
    exact ⟨hle, _, c, rfl, rfl, rfl⟩
set_option maxRecDepth 100000 in
set_option maxHeartbeats 4000000 in
theorem pf_combined (x y : FracA × FracA) (f : G2 → G2 → Except Int G2) (g : FuncId) (va vb : Value) (w : World) (h1 : IsTurnA w va x) (h2 : IsTurnA w vb y) (hg : Plain Tryz.prog g) (hop : OpOkT Tryz.prog g f) :
    Calls Tryz.prog 22 #[va, vb, .func (.func g) #[] #[]] w (ResPostT (opG f x y) w) := by
  obtain ⟨x1A, x1c, x1B, x1d, x2A, x2c, x2B, x2d, rfl, p1, p2⟩ := h1
  obtain ⟨y1A, y1c, y1B, y1d, y2A, y2c, y2B, y2d, rfl, q1, q2⟩ := h2
  obtain ⟨W0, hW0, hsz, hle, k0, k1, k2, k3⟩ := new4_le w (.cells #[.bool x.1.sn, .slice x1A x.1.gn.length x1c, .bool x.1.sd, .slice x1B x.1.gd.length x1d, .bool x.2.sn, .slice x2A x.2.gn.length x2c, .bool x.2.sd, .slice x2B x.2.gd.length x2d] 28) (.cells #[.bool y.1.sn, .slice y1A y.1.gn.length y1c, .bool y.1.sd, .slice y1B y.1.gd.length y1d, .bool y.2.sn, .slice y2A y.2.gn.length y2c, .bool y.2.sd, .slice y2B y.2.gd.length y2d] 28) (.cells #[.func (.func g) #[] #[]] 50) (.cells #[.bool false, .slice none 0 0, .bool false, .slice none 0 0, .bool false, .slice none 0 0, .bool false, .slice none 0 0] 28)
  have hmf : ∀ (fn : Fn) (first cap : Array Value) (w : World), (Instr.makeFunc fn first cap).run Tryz.prog w = .ok (.func fn first cap) w := fun _ _ _ _ => rfl
  have hbx : ABox W0 w.heap.size x := ⟨_, _, _, _, _, _, _, _, k0, p1.le hle, p2.le hle⟩
  have hby : ABox W0 (w.heap.size + 1) y := ⟨_, _, _, _, _, _, _, _, k1, q1.le hle, q2.le hle⟩
  have hf : ∀ W, Le W0 W → Calls Tryz.prog 57 #[.pointer (some ⟨w.heap.size, 0, none⟩), .pointer (some ⟨w.heap.size + 1, 0, none⟩), .pointer (some ⟨w.heap.size + 1 + 1, 0, none⟩)] W (OperPostT (opG f x y) W) := fun W hW =>
    pf_combined1 x y f g _ _ _ W (hbx.le hW) (hby.le hW) _ (box_later hW k2) hg hop
  have hrun := pf_run_aturn (opG f x y) _ _ W0 plain_combined1 hf
  have hle' := Lib.hid hle
  have k0' := Lib.hid k0
  have k1' := Lib.hid k1
  have k2' := Lib.hid k2
  have k3' := Lib.hid k3
  have p1' := Lib.hid p1
  have p2' := Lib.hid p2
  have q1' := Lib.hid q1
  have q2' := Lib.hid q2
  have hbx' := Lib.hid hbx
  have hby' := Lib.hid hby
  have hf' := Lib.hid hf
  have hrun' := Lib.hid hrun
  have hop' := Lib.hid hop
  have hg' := Lib.hid hg
  clear hg hop hrun hf hby hbx q2 q1 p2 p1 k3 k2 k1 k0 hle
  go_enter Tryz.func22, Tryz.ntmps22
  go_wp2_with (fail)
  clear hW0
  go_at_call 45
  refine hrun'.out.mono ?_
  rintro e W1 ⟨hle1, v1, cc, rfl, hres⟩
  have hres0 := hres
  obtain ⟨rs1, rA1, rn1, rc1, rt1, rB1, rm1, rd1, rs2, rA2, rn2, rc2, rt2, rB2, rm2, rd2, rfl⟩ := hres.form
  have k9 := box_later hle1 k3'.out
  have hl9 := hle'.out.trans hle1
  have hle1' := Lib.hid hle1
  have hres' := Lib.hid hres
  have hres0' := Lib.hid hres0
  have hl9' := Lib.hid hl9
  clear hl9 hres0 hres hle1
  obtain ⟨z0, z1, z2, z3, z4, z5, z6, z7⟩ := cells8 k9
  have g0 := frozen00 k9 0
  have g1 := frozen00 k9 1
  have g2 := frozen00 k9 2
  have g3 := frozen00 k9 3
  have g4 := frozen00 k9 4
  have g5 := frozen00 k9 5
  have g6 := frozen00 k9 6
  have g7 := frozen00 k9 7
  have hle9 := fun u0 u1 u2 u3 u4 u5 u6 u7 => le_set8 (hl9'.out) (show w.heap.size ≤ w.heap.size + 1 + 1 + 1 by omega) u0 u1 u2 u3 u4 u5 u6 u7
  have hb9 := fun u0 u1 u2 u3 u4 u5 u6 u7 => cells8 (heap_set8 k9 u0 u1 u2 u3 u4 u5 u6 u7)
  simp only [set8] at hb9
  have hfin := fun u0 u1 u2 u3 u4 u5 u6 u7 => hres'.out.touch (noInt8 k9) (touch_set8 W1 (w.heap.size + 1 + 1 + 1) u0 u1 u2 u3 u4 u5 u6 u7)
  have hle9' := Lib.hid hle9
  have hb9' := Lib.hid hb9
  have hfin' := Lib.hid hfin
  have k9' := Lib.hid k9
  clear k9 hfin hb9 hle9
  go_wp2
  obtain ⟨d0, d1, d2, d3, d4, d5, d6, d7⟩ := hb9'.out (.bool rs1) (.slice rA1 rn1 rc1) (.bool rt1) (.slice rB1 rm1 rd1) (.bool rs2) (.slice rA2 rn2 rc2) (.bool rt2) (.slice rB2 rm2 rd2)
  exact bodyPost_ret (v := .tuple #[.agg #[.bool rs1, .slice rA1 rn1 rc1, .bool rt1, .slice rB1 rm1 rd1, .bool rs2, .slice rA2 rn2 rc2, .bool rt2, .slice rB2 rm2 rd2], .int .i64 cc]) (by simp [results, Tryz.results22, go_sem, d0, d1, d2, d3, d4, d5, d6, d7]) rfl ⟨hle9'.out _ _ _ _ _ _ _ _, _, _, rfl, hfin'.out _ _ _ _ _ _ _ _⟩
theorem plain_AddTurn : Plain Tryz.prog 23 := fun _ _ => by kernel_rfl
theorem opOk_AddTurn : OpOkT Tryz.prog 23 (fun a b => outG (gadd a b)) := fun a b va vb W ha hb hva hvb =>
  (pf_tplus a b va vb W hva hvb (ha.up (by decide)) (hb.up (by decide))).mono fun e W' ⟨v, he, hle, hr⟩ => ⟨hle, .inl ⟨_, v, rfl, he, hr⟩⟩
set_option maxRecDepth 100000 in
set_option maxHeartbeats 4000000 in
theorem pf_AddTurn (x y : FracA × FracA) (va vb : Value) (w : World) (h1 : IsTurnA w va x) (h2 : IsTurnA w vb y) :
    Calls Tryz.prog 5 #[va, vb] w (ResPostT (opG (fun a b => outG (gadd a b)) x y) w) := by
  obtain ⟨x1A, x1c, x1B, x1d, x2A, x2c, x2B, x2d, rfl, p1, p2⟩ := h1
  obtain ⟨y1A, y1c, y1B, y1d, y2A, y2c, y2B, y2d, rfl, q1, q2⟩ := h2
  obtain ⟨W0, hW0, hsz, hle, k0, k1, k2⟩ := new3_le w (.cells #[.bool x.1.sn, .slice x1A x.1.gn.length x1c, .bool x.1.sd, .slice x1B x.1.gd.length x1d, .bool x.2.sn, .slice x2A x.2.gn.length x2c, .bool x.2.sd, .slice x2B x.2.gd.length x2d] 28) (.cells #[.bool y.1.sn, .slice y1A y.1.gn.length y1c, .bool y.1.sd, .slice y1B y.1.gd.length y1d, .bool y.2.sn, .slice y2A y.2.gn.length y2c, .bool y.2.sd, .slice y2B y.2.gd.length y2d] 28) (.cells #[.bool false, .slice none 0 0, .bool false, .slice none 0 0, .bool false, .slice none 0 0, .bool false, .slice none 0 0] 28)
  obtain ⟨a0, a1, a2, a3, a4, a5, a6, a7⟩ := cells8 k0
  obtain ⟨b0, b1, b2, b3, b4, b5, b6, b7⟩ := cells8 k1
  have hcall := pf_combined x y (fun a b => outG (gadd a b)) 23 _ _ W0 (IsTurnA.mk (p1.le hle) (p2.le hle)) (IsTurnA.mk (q1.le hle) (q2.le hle)) plain_AddTurn opOk_AddTurn
  have hle' := Lib.hid hle
  have k0' := Lib.hid k0
  have k1' := Lib.hid k1
  have k2' := Lib.hid k2
  have p1' := Lib.hid p1
  have p2' := Lib.hid p2
  have q1' := Lib.hid q1
  have q2' := Lib.hid q2
  have hcall' := Lib.hid hcall
  clear hcall q2 q1 p2 p1 k2 k1 k0 hle
  go_enter Tryz.func5, Tryz.ntmps5
  go_wp2_with (fail)
  clear hW0
  go_at_call 22
  refine hcall'.out.mono ?_
  rintro e W1 ⟨hle1, v1, cc, rfl, hres⟩
  have hres0 := hres
  obtain ⟨rs1, rA1, rn1, rc1, rt1, rB1, rm1, rd1, rs2, rA2, rn2, rc2, rt2, rB2, rm2, rd2, rfl⟩ := hres.form
  have k9 := box_later hle1 k2'.out
  have hl9 := hle'.out.trans hle1
  have hle1' := Lib.hid hle1
  have hres' := Lib.hid hres
  have hres0' := Lib.hid hres0
  have hl9' := Lib.hid hl9
  clear hl9 hres0 hres hle1
  obtain ⟨z0, z1, z2, z3, z4, z5, z6, z7⟩ := cells8 k9
  have g0 := frozen00 k9 0
  have g1 := frozen00 k9 1
  have g2 := frozen00 k9 2
  have g3 := frozen00 k9 3
  have g4 := frozen00 k9 4
  have g5 := frozen00 k9 5
  have g6 := frozen00 k9 6
  have g7 := frozen00 k9 7
  have hle9 := fun u0 u1 u2 u3 u4 u5 u6 u7 => le_set8 (hl9'.out) (show w.heap.size ≤ w.heap.size + 1 + 1 by omega) u0 u1 u2 u3 u4 u5 u6 u7
  have hb9 := fun u0 u1 u2 u3 u4 u5 u6 u7 => cells8 (heap_set8 k9 u0 u1 u2 u3 u4 u5 u6 u7)
  simp only [set8] at hb9
  have hfin := fun u0 u1 u2 u3 u4 u5 u6 u7 => hres'.out.touch (noInt8 k9) (touch_set8 W1 (w.heap.size + 1 + 1) u0 u1 u2 u3 u4 u5 u6 u7)
  have hle9' := Lib.hid hle9
  have hb9' := Lib.hid hb9
  have hfin' := Lib.hid hfin
  have k9' := Lib.hid k9
  clear k9 hfin hb9 hle9
  go_wp2
  obtain ⟨d0, d1, d2, d3, d4, d5, d6, d7⟩ := hb9'.out (.bool rs1) (.slice rA1 rn1 rc1) (.bool rt1) (.slice rB1 rm1 rd1) (.bool rs2) (.slice rA2 rn2 rc2) (.bool rt2) (.slice rB2 rm2 rd2)
  exact bodyPost_ret (v := .tuple #[.agg #[.bool rs1, .slice rA1 rn1 rc1, .bool rt1, .slice rB1 rm1 rd1, .bool rs2, .slice rA2 rn2 rc2, .bool rt2, .slice rB2 rm2 rd2], .int .i64 cc]) (by simp [results, Tryz.results5, go_sem, d0, d1, d2, d3, d4, d5, d6, d7]) rfl ⟨hle9'.out _ _ _ _ _ _ _ _, _, _, rfl, hfin'.out _ _ _ _ _ _ _ _⟩
theorem plain_MulTurn : Plain Tryz.prog 27 := fun _ _ => by kernel_rfl
theorem opOk_MulTurn : OpOkT Tryz.prog 27 (fun a b => outG (gmul a b)) := fun a b va vb W ha hb hva hvb =>
  (pf_ttimes a b va vb W hva hvb (ha.up (by decide)) (hb.up (by decide))).mono fun e W' ⟨v, he, hle, hr⟩ => ⟨hle, .inl ⟨_, v, rfl, he, hr⟩⟩
set_option maxRecDepth 100000 in
set_option maxHeartbeats 4000000 in
theorem pf_MulTurn (x y : FracA × FracA) (va vb : Value) (w : World) (h1 : IsTurnA w va x) (h2 : IsTurnA w vb y) :
    Calls Tryz.prog 7 #[va, vb] w (ResPostT (opG (fun a b => outG (gmul a b)) x y) w) := by
  obtain ⟨x1A, x1c, x1B, x1d, x2A, x2c, x2B, x2d, rfl, p1, p2⟩ := h1
  obtain ⟨y1A, y1c, y1B, y1d, y2A, y2c, y2B, y2d, rfl, q1, q2⟩ := h2
  obtain ⟨W0, hW0, hsz, hle, k0, k1, k2⟩ := new3_le w (.cells #[.bool x.1.sn, .slice x1A x.1.gn.length x1c, .bool x.1.sd, .slice x1B x.1.gd.length x1d, .bool x.2.sn, .slice x2A x.2.gn.length x2c, .bool x.2.sd, .slice x2B x.2.gd.length x2d] 28) (.cells #[.bool y.1.sn, .slice y1A y.1.gn.length y1c, .bool y.1.sd, .slice y1B y.1.gd.length y1d, .bool y.2.sn, .slice y2A y.2.gn.length y2c, .bool y.2.sd, .slice y2B y.2.gd.length y2d] 28) (.cells #[.bool false, .slice none 0 0, .bool false, .slice none 0 0, .bool false, .slice none 0 0, .bool false, .slice none 0 0] 28)
  obtain ⟨a0, a1, a2, a3, a4, a5, a6, a7⟩ := cells8 k0
  obtain ⟨b0, b1, b2, b3, b4, b5, b6, b7⟩ := cells8 k1
  have hcall := pf_combined x y (fun a b => outG (gmul a b)) 27 _ _ W0 (IsTurnA.mk (p1.le hle) (p2.le hle)) (IsTurnA.mk (q1.le hle) (q2.le hle)) plain_MulTurn opOk_MulTurn
  have hle' := Lib.hid hle
  have k0' := Lib.hid k0
  have k1' := Lib.hid k1
  have k2' := Lib.hid k2
  have p1' := Lib.hid p1
  have p2' := Lib.hid p2
  have q1' := Lib.hid q1
  have q2' := Lib.hid q2
  have hcall' := Lib.hid hcall
  clear hcall q2 q1 p2 p1 k2 k1 k0 hle
  go_enter Tryz.func7, Tryz.ntmps7
  go_wp2_with (fail)
  clear hW0
  go_at_call 22
  refine hcall'.out.mono ?_
  rintro e W1 ⟨hle1, v1, cc, rfl, hres⟩
  have hres0 := hres
  obtain ⟨rs1, rA1, rn1, rc1, rt1, rB1, rm1, rd1, rs2, rA2, rn2, rc2, rt2, rB2, rm2, rd2, rfl⟩ := hres.form
  have k9 := box_later hle1 k2'.out
  have hl9 := hle'.out.trans hle1
  have hle1' := Lib.hid hle1
  have hres' := Lib.hid hres
  have hres0' := Lib.hid hres0
  have hl9' := Lib.hid hl9
  clear hl9 hres0 hres hle1
  obtain ⟨z0, z1, z2, z3, z4, z5, z6, z7⟩ := cells8 k9
  have g0 := frozen00 k9 0
  have g1 := frozen00 k9 1
  have g2 := frozen00 k9 2
  have g3 := frozen00 k9 3
  have g4 := frozen00 k9 4
  have g5 := frozen00 k9 5
  have g6 := frozen00 k9 6
  have g7 := frozen00 k9 7
  have hle9 := fun u0 u1 u2 u3 u4 u5 u6 u7 => le_set8 (hl9'.out) (show w.heap.size ≤ w.heap.size + 1 + 1 by omega) u0 u1 u2 u3 u4 u5 u6 u7
  have hb9 := fun u0 u1 u2 u3 u4 u5 u6 u7 => cells8 (heap_set8 k9 u0 u1 u2 u3 u4 u5 u6 u7)
  simp only [set8] at hb9
  have hfin := fun u0 u1 u2 u3 u4 u5 u6 u7 => hres'.out.touch (noInt8 k9) (touch_set8 W1 (w.heap.size + 1 + 1) u0 u1 u2 u3 u4 u5 u6 u7)
  have hle9' := Lib.hid hle9
  have hb9' := Lib.hid hb9
  have hfin' := Lib.hid hfin
  have k9' := Lib.hid k9
  clear k9 hfin hb9 hle9
  go_wp2
  obtain ⟨d0, d1, d2, d3, d4, d5, d6, d7⟩ := hb9'.out (.bool rs1) (.slice rA1 rn1 rc1) (.bool rt1) (.slice rB1 rm1 rd1) (.bool rs2) (.slice rA2 rn2 rc2) (.bool rt2) (.slice rB2 rm2 rd2)
  exact bodyPost_ret (v := .tuple #[.agg #[.bool rs1, .slice rA1 rn1 rc1, .bool rt1, .slice rB1 rm1 rd1, .bool rs2, .slice rA2 rn2 rc2, .bool rt2, .slice rB2 rm2 rd2], .int .i64 cc]) (by simp [results, Tryz.results7, go_sem, d0, d1, d2, d3, d4, d5, d6, d7]) rfl ⟨hle9'.out _ _ _ _ _ _ _ _, _, _, rfl, hfin'.out _ _ _ _ _ _ _ _⟩
theorem plain_DivTurn : Plain Tryz.prog 29 := fun _ _ => by kernel_rfl
set_option maxRecDepth 100000 in
set_option maxHeartbeats 4000000 in
theorem opOk_DivTurn : OpOkT Tryz.prog 29 divG := by
  intro a b va vb w hsa hsb ha hb
  have ha0 := ha
  have hb0 := hb
  obtain ⟨as1, aA1, an1, ac1, aB1, am1, ad1, as2, aA2, an2, ac2, aB2, am2, ad2, rfl, ha1, ha2⟩ := ha
  obtain ⟨bs1, bA1, bn1, bc1, bB1, bm1, bd1, bs2, bA2, bn2, bc2, bB2, bm2, bd2, rfl, hb1, hb2⟩ := hb
  obtain ⟨W0, hW0, hsz, hle, k0, k1, k2⟩ := new3_le w (.cells #[.bool as1, .slice aA1 an1 ac1, .slice aB1 am1 ad1, .bool as2, .slice aA2 an2 ac2, .slice aB2 am2 ad2] 56) (.cells #[.bool bs1, .slice bA1 bn1 bc1, .slice bB1 bm1 bd1, .bool bs2, .slice bA2 bn2 bc2, .slice bB2 bm2 bd2] 56) (.cells #[.bool false, .slice none 0 0, .slice none 0 0, .bool false, .slice none 0 0, .slice none 0 0] 56)
  obtain ⟨ca0, ca1, ca2, ca3, ca4, ca5⟩ := cells6 k0
  obtain ⟨cb0, cb1, cb2, cb3, cb4, cb5⟩ := cells6 k1
  have hz := pf_tisZero b _ W0 (hb0.le hle)
  by_cases hn : gnorm b = 0
  · have hdv : divG a b = .error 11 := if_pos hn
    rw [decide_eq_true hn] at hz
    have hle' := Lib.hid hle
    have k0' := Lib.hid k0
    have k1' := Lib.hid k1
    have k2' := Lib.hid k2
    have ha0' := Lib.hid ha0
    have hb0' := Lib.hid hb0
    have ha1' := Lib.hid ha1
    have ha2' := Lib.hid ha2
    have hb1' := Lib.hid hb1
    have hb2' := Lib.hid hb2
    have hsa' := Lib.hid hsa
    have hsb' := Lib.hid hsb
    have hz' := Lib.hid hz
    have hdv' := Lib.hid hdv
    have hn' := Lib.hid hn
    clear hn hdv hz hsb hsa hb2 hb1 ha2 ha1 hb0 ha0 k2 k1 k0 hle
    go_enter Tryz.func29, Tryz.ntmps29
    go_wp2_with (fail)
    clear hW0
    go_at_call 31
    refine hz'.out.mono ?_
    rintro e W1 ⟨rfl, hle1⟩
    have hl1 := hle'.out.trans hle1
    have hle1' := Lib.hid hle1
    have hl1' := Lib.hid hl1
    clear hl1 hle1
    go_wp2_with (fail)
    go_at_call 30
    refine (pf_must_no 11 W1).mono ?_
    rintro e W2 ⟨rfl, rfl⟩
    go_wp2_with (fail)
    exact ⟨rfl, hl1'.out, .inr ⟨11, hdv'.out, rfl⟩⟩
  · have hdv : divG a b = outG (gdiv a b) := if_neg hn
    rw [decide_eq_false hn] at hz
    have hle' := Lib.hid hle
    have k0' := Lib.hid k0
    have k1' := Lib.hid k1
    have k2' := Lib.hid k2
    have ha0' := Lib.hid ha0
    have hb0' := Lib.hid hb0
    have ha1' := Lib.hid ha1
    have ha2' := Lib.hid ha2
    have hb1' := Lib.hid hb1
    have hb2' := Lib.hid hb2
    have hsa' := Lib.hid hsa
    have hsb' := Lib.hid hsb
    have hz' := Lib.hid hz
    have hdv' := Lib.hid hdv
    have hn' := Lib.hid hn
    clear hn hdv hz hsb hsa hb2 hb1 ha2 ha1 hb0 ha0 k2 k1 k0 hle
    go_enter Tryz.func29, Tryz.ntmps29
    go_wp2_with (fail)
    clear hW0
    go_at_call 31
    refine hz'.out.mono ?_
    rintro e W1 ⟨rfl, hle1⟩
    clear ca0 ca1 ca2 ca3 ca4 ca5 cb0 cb1 cb2 cb3 cb4 cb5
    obtain ⟨ca0, ca1, ca2, ca3, ca4, ca5⟩ := cells6 (box_later hle1 k0'.out)
    obtain ⟨cb0, cb1, cb2, cb3, cb4, cb5⟩ := cells6 (box_later hle1 k1'.out)
    have hl1 := hle'.out.trans hle1
    have k2V := box_later hle1 k2'.out
    have hov := pf_tover a b _ _ W1 (ha0'.out.le hl1) (hb0'.out.le hl1) (hsa'.out.up (by decide)) (hsb'.out.up (by decide)) hn'.out
    have hle1' := Lib.hid hle1
    have hl1' := Lib.hid hl1
    have k2V' := Lib.hid k2V
    have hov' := Lib.hid hov
    clear hov k2V hl1 hle1
    go_wp2_with (fail)
    go_at_call 30
    refine (pf_must_ok 11 W1).mono ?_
    rintro e W2 ⟨rfl, rfl⟩
    go_wp2_with (fail)
    go_at_call 32
    refine hov'.out.mono ?_
    rintro e W3 ⟨v3, rfl, hle3, h3⟩
    obtain ⟨rs1, rA1, rn1, rc1, rB1, rm1, rd1, rs2, rA2, rn2, rc2, rB2, rm2, rd2, rfl, y1, y2⟩ := h3
    have k3 := box_later hle3 k2V'.out
    have hl3 := hl1'.out.trans hle3
    have hle3' := Lib.hid hle3
    have hl3' := Lib.hid hl3
    have y1' := Lib.hid y1
    have y2' := Lib.hid y2
    clear y2 y1 hl3 hle3
    obtain ⟨z0, z1, z2, z3, z4, z5⟩ := cells6 k3
    have g0 := frozen00 k3 0
    have g1 := frozen00 k3 1
    have g2 := frozen00 k3 2
    have g3 := frozen00 k3 3
    have g4 := frozen00 k3 4
    have g5 := frozen00 k3 5
    have hle9 := fun u0 u1 u2 u3 u4 u5 => le_set6 (hl3'.out) (show w.heap.size ≤ w.heap.size + 1 + 1 by omega) u0 u1 u2 u3 u4 u5
    have hb9 := fun u0 u1 u2 u3 u4 u5 => cells6 (heap_set6 k3 u0 u1 u2 u3 u4 u5)
    simp only [set6] at hb9
    have hfin := fun u0 u1 u2 u3 u4 u5 => And.intro (y1'.out.touch (noInt6 k3) (touch_set6 W3 (w.heap.size + 1 + 1) u0 u1 u2 u3 u4 u5)) (y2'.out.touch (noInt6 k3) (touch_set6 W3 (w.heap.size + 1 + 1) u0 u1 u2 u3 u4 u5))
    have hle9' := Lib.hid hle9
    have hb9' := Lib.hid hb9
    have hfin' := Lib.hid hfin
    have k3' := Lib.hid k3
    clear k3 hfin hb9 hle9
    go_wp2
    obtain ⟨d0, d1, d2, d3, d4, d5⟩ := hb9'.out (.bool rs1) (.slice rA1 rn1 rc1) (.slice rB1 rm1 rd1) (.bool rs2) (.slice rA2 rn2 rc2) (.slice rB2 rm2 rd2)
    exact bodyPost_ret (v := .agg #[.bool rs1, .slice rA1 rn1 rc1, .slice rB1 rm1 rd1, .bool rs2, .slice rA2 rn2 rc2, .slice rB2 rm2 rd2]) (by simp [results, Tryz.results29, go_sem, d0, d1, d2, d3, d4, d5]) rfl ⟨hle9'.out _ _ _ _ _ _, .inl ⟨_, _, hdv'.out, rfl, TurnL.mk (hfin'.out _ _ _ _ _ _).1 (hfin'.out _ _ _ _ _ _).2⟩⟩

set_option maxRecDepth 100000 in
set_option maxHeartbeats 4000000 in
theorem pf_DivTurn (x y : FracA × FracA) (va vb : Value) (w : World) (h1 : IsTurnA w va x) (h2 : IsTurnA w vb y) :
    Calls Tryz.prog 9 #[va, vb] w (ResPostT (opG (divG) x y) w) := by
  obtain ⟨x1A, x1c, x1B, x1d, x2A, x2c, x2B, x2d, rfl, p1, p2⟩ := h1
  obtain ⟨y1A, y1c, y1B, y1d, y2A, y2c, y2B, y2d, rfl, q1, q2⟩ := h2
  obtain ⟨W0, hW0, hsz, hle, k0, k1, k2⟩ := new3_le w (.cells #[.bool x.1.sn, .slice x1A x.1.gn.length x1c, .bool x.1.sd, .slice x1B x.1.gd.length x1d, .bool x.2.sn, .slice x2A x.2.gn.length x2c, .bool x.2.sd, .slice x2B x.2.gd.length x2d] 28) (.cells #[.bool y.1.sn, .slice y1A y.1.gn.length y1c, .bool y.1.sd, .slice y1B y.1.gd.length y1d, .bool y.2.sn, .slice y2A y.2.gn.length y2c, .bool y.2.sd, .slice y2B y.2.gd.length y2d] 28) (.cells #[.bool false, .slice none 0 0, .bool false, .slice none 0 0, .bool false, .slice none 0 0, .bool false, .slice none 0 0] 28)
  obtain ⟨a0, a1, a2, a3, a4, a5, a6, a7⟩ := cells8 k0
  obtain ⟨b0, b1, b2, b3, b4, b5, b6, b7⟩ := cells8 k1
  have hcall := pf_combined x y (divG) 29 _ _ W0 (IsTurnA.mk (p1.le hle) (p2.le hle)) (IsTurnA.mk (q1.le hle) (q2.le hle)) plain_DivTurn opOk_DivTurn
  have hle' := Lib.hid hle
  have k0' := Lib.hid k0
  have k1' := Lib.hid k1
  have k2' := Lib.hid k2
  have p1' := Lib.hid p1
  have p2' := Lib.hid p2
  have q1' := Lib.hid q1
  have q2' := Lib.hid q2
  have hcall' := Lib.hid hcall
  clear hcall q2 q1 p2 p1 k2 k1 k0 hle
  go_enter Tryz.func9, Tryz.ntmps9
  go_wp2_with (fail)
  clear hW0
  go_at_call 22
  refine hcall'.out.mono ?_
  rintro e W1 ⟨hle1, v1, cc, rfl, hres⟩
  have hres0 := hres
  obtain ⟨rs1, rA1, rn1, rc1, rt1, rB1, rm1, rd1, rs2, rA2, rn2, rc2, rt2, rB2, rm2, rd2, rfl⟩ := hres.form
  have k9 := box_later hle1 k2'.out
  have hl9 := hle'.out.trans hle1
  have hle1' := Lib.hid hle1
  have hres' := Lib.hid hres
  have hres0' := Lib.hid hres0
  have hl9' := Lib.hid hl9
  clear hl9 hres0 hres hle1
  obtain ⟨z0, z1, z2, z3, z4, z5, z6, z7⟩ := cells8 k9
  have g0 := frozen00 k9 0
  have g1 := frozen00 k9 1
  have g2 := frozen00 k9 2
  have g3 := frozen00 k9 3
  have g4 := frozen00 k9 4
  have g5 := frozen00 k9 5
  have g6 := frozen00 k9 6
  have g7 := frozen00 k9 7
  have hle9 := fun u0 u1 u2 u3 u4 u5 u6 u7 => le_set8 (hl9'.out) (show w.heap.size ≤ w.heap.size + 1 + 1 by omega) u0 u1 u2 u3 u4 u5 u6 u7
  have hb9 := fun u0 u1 u2 u3 u4 u5 u6 u7 => cells8 (heap_set8 k9 u0 u1 u2 u3 u4 u5 u6 u7)
  simp only [set8] at hb9
  have hfin := fun u0 u1 u2 u3 u4 u5 u6 u7 => hres'.out.touch (noInt8 k9) (touch_set8 W1 (w.heap.size + 1 + 1) u0 u1 u2 u3 u4 u5 u6 u7)
  have hle9' := Lib.hid hle9
  have hb9' := Lib.hid hb9
  have hfin' := Lib.hid hfin
  have k9' := Lib.hid k9
  clear k9 hfin hb9 hle9
  go_wp2
  obtain ⟨d0, d1, d2, d3, d4, d5, d6, d7⟩ := hb9'.out (.bool rs1) (.slice rA1 rn1 rc1) (.bool rt1) (.slice rB1 rm1 rd1) (.bool rs2) (.slice rA2 rn2 rc2) (.bool rt2) (.slice rB2 rm2 rd2)
  exact bodyPost_ret (v := .tuple #[.agg #[.bool rs1, .slice rA1 rn1 rc1, .bool rt1, .slice rB1 rm1 rd1, .bool rs2, .slice rA2 rn2 rc2, .bool rt2, .slice rB2 rm2 rd2], .int .i64 cc]) (by simp [results, Tryz.results9, go_sem, d0, d1, d2, d3, d4, d5, d6, d7]) rfl ⟨hle9'.out _ _ _ _ _ _ _ _, _, _, rfl, hfin'.out _ _ _ _ _ _ _ _⟩
end Go.Proofs.YtpjmbgfggonhhaaGreat
