/- law 1, ExactFracs: regions 0 to 3, the whole. -/
import Derived.Test.YtemdemfknnkcaaaExA
import Derived.Test.YtemdemfknnkcaaaExE
namespace Go.Proofs.Ytemdemfknnkcaaa
open Go.RowKit Go.Shelf
set_option linter.unusedVariables false
set_option linter.unusedSimpArgs false
theorem IsFracA.box4 {L : Nat → Prop} {W : World} {v u0 u1 u2 u3 : Value} {b0 b1 : Bool} {A1 A2 : Option Addr} {n1 c1 n2 c2 B : Nat} {x : FracA} {t : TypeId} (h : IsFracA L W v x) (hk : W.heap[B]? = some (Obj.cells #[.bool b0, .slice A1 n1 c1, .bool b1, .slice A2 n2 c2] t)) :
    IsFracA L ((((W.setCell ⟨B, 0, none⟩ u0).setCell ⟨B, 1, none⟩ u1).setCell ⟨B, 2, none⟩ u2).setCell ⟨B, 3, none⟩ u3) v x := by
  have one : ∀ (S : Option Addr) (c : Nat) (g : List Nat), ArrL L (gv .u32) W (.slice S g.length c) g → ArrL L (gv .u32) ((((W.setCell ⟨B, 0, none⟩ u0).setCell ⟨B, 1, none⟩ u1).setCell ⟨B, 2, none⟩ u2).setCell ⟨B, 3, none⟩ u3) (.slice S g.length c) g := by
    intro S c g ⟨A, c', hv, h1, h2, hN, h3⟩
    refine ⟨A, c', hv, h1, h2, hN, fun h0 => ?_⟩
    obtain ⟨b, off, ha, hb, hlt, hc⟩ := h3 h0
    have hne : b ≠ B := by
      rintro rfl
      have h4 := hc 0 h0
      rw [cell_of_row _ _ _ _ t (0, 0) hk] at h4
      have h5 := (Array.getElem?_eq_some_iff.1 h4).1
      unfold gv at h4
      simp only [List.size_toArray, List.length_cons, List.length_nil] at h5
      obtain h6 | h6 | h6 | h6 : off + 0 = 0 ∨ off + 0 = 1 ∨ off + 0 = 2 ∨ off + 0 = 3 := by omega
      all_goals (rw [h6] at h4; simp at h4)
    refine ⟨b, off, ha, hb, by simpa [World.setCell] using hlt, fun j hj => ?_⟩
    refine (World.cell?_of_block ?_).trans (hc j hj)
    exact (Below.heap_setCell _ _ _ _ hne).trans ((Below.heap_setCell _ _ _ _ hne).trans ((Below.heap_setCell _ _ _ _ hne).trans (Below.heap_setCell _ _ _ _ hne)))
  obtain ⟨A, c, A', d, e, h1, h2⟩ := h
  exact ⟨A, c, A', d, e, one _ _ _ h1, one _ _ _ h2⟩
theorem bigB_len {n : Nat} (h : bigB n 12 = false) : n ≤ 1000 := by
  unfold bigB at h
  simp at h
  omega
theorem great_len {x : FracA} (h : greatB x 12 = false) : x.gn.length ≤ 1000 ∧ x.gd.length ≤ 1000 := by
  unfold greatB at h
  rw [Bool.or_eq_false_iff] at h
  exact ⟨bigB_len h.1, bigB_len h.2⟩
theorem ex_join (w : World) (x y : FracA) (va vb vx vy : Value) (n d : Int) (k4 k5 k9 k10 : Nat) (V : World) (hV : VF V k4 k5 k9 k10 va vb vx vy x y) (hwV : Below w.heap.size w V) (hn0 : -9223372036854775808 ≤ n) (hn1 : n ≤ 9223372036854775807) (hd0 : -9223372036854775808 ≤ d) (hd1 : d ≤ 9223372036854775807) (t : Array Value) (ht : ∃ u : Nat → Value, t = #[(u 0), (u 1), .int .i64 n, .int .i64 d, .pointer (some ⟨k4, 0, none⟩), .pointer (some ⟨k5, 0, none⟩), (u 6), (u 7), (u 8), .pointer (some ⟨k9, 0, none⟩), .pointer (some ⟨k10, 0, none⟩), (u 11), (u 12), (u 13), (u 14), (u 15), (u 16), (u 17), (u 18), (u 19), (u 20), (u 21), (u 22), (u 23), (u 24), (u 25), (u 26), (u 27), (u 28), (u 29), (u 30), (u 31), (u 32), (u 33), (u 34), (u 35), (u 36), (u 37), (u 38), (u 39), (u 40), (u 41), (u 42), (u 43), (u 44), (u 45), (u 46), (u 47), (u 48), (u 49), (u 50), (u 51), (u 52), (u 53), (u 54), (u 55), (u 56), (u 57), (u 58), (u 59), (u 60), (u 61), (u 62), (u 63), (u 64), (u 65), (u 66), (u 67), (u 68), (u 69), (u 70), (u 71), (u 72), (u 73), (u 74), (u 75), (u 76), (u 77), (u 78), (u 79), (u 80), (u 81), (u 82), (u 83), (u 84), (u 85), (u 86), (u 87), (u 88), (u 89), (u 90), (u 91), (u 92), (u 93), (u 94), (u 95), (u 96), (u 97), (u 98), (u 99), (u 100), (u 101), (u 102), (u 103), (u 104), (u 105), (u 106), (u 107), (u 108), (u 109), (u 110), (u 111), (u 112), (u 113), (u 114), (u 115), (u 116), (u 117), (u 118), (u 119), (u 120), (u 121), (u 122), (u 123), (u 124), (u 125), (u 126), (u 127), (u 128), (u 129), (u 130), (u 131), (u 132), (u 133), (u 134), (u 135), (u 136), (u 137), (u 138), (u 139), (u 140), (u 141), (u 142), (u 143), (u 144), (u 145), (u 146), (u 147), (u 148), (u 149), (u 150), (u 151), (u 152), (u 153), (u 154), (u 155), (u 156), (u 157), (u 158), (u 159), (u 160), (u 161), (u 162), (u 163), (u 164), (u 165), (u 166), (u 167), (u 168), (u 169), (u 170), (u 171), (u 172), (u 173), (u 174), (u 175), (u 176), (u 177), (u 178), (u 179), (u 180), (u 181), (u 182), (u 183), (u 184), (u 185), (u 186), (u 187), (u 188), (u 189), (u 190), (u 191), (u 192), (u 193), (u 194), (u 195), (u 196), (u 197), (u 198), (u 199), (u 200), (u 201), (u 202), (u 203), (u 204), (u 205), (u 206), (u 207), (u 208), (u 209), (u 210), (u 211), (u 212), (u 213), (u 214), (u 215), (u 216), (u 217), (u 218), (u 219), (u 220), (u 221), (u 222), (u 223), (u 224), (u 225), (u 226), (u 227)]) : ExFrom 4 w t V := by
  refine ex_from4 w x y va vb vx vy n d _ _ _ _ _ k4 k5 k9 k10 V hV hn0 hn1 hd0 hd1 rfl rfl rfl rfl rfl (fun j19 j21 W t1 ht1 hle1 h19 h21 => ?_) t ht
  refine ex_from10 w x y va vb vx vy n d _ _ _ _ _ k4 k5 k9 k10 j19 j21 V W hV hle1 h19 h21 hn0 hn1 hd0 hd1 (fun W2 t2 ht2 hle2 => ?_) t1 ht1
  refine ex_from11 w x y va vb vx vy _ _ _ _ k4 k5 k9 k10 V W2 hV hwV hle2 rfl rfl rfl rfl (fun j24 j25 j26 j27 W3 t3 ht3 hle3 h24 h25 h26 h27 => ?_) t2 ht2
  refine ex_from15 w x y va vb vx vy _ _ _ _ k4 k5 k9 k10 j24 j25 j26 j27 V W3 hV hwV hle3 h24 h25 h26 h27 rfl rfl rfl rfl (fun a24 a25 a26 a27 j28 j29 j30 j32 W4 t4 ht4 hle4 h24 h25 h26 h27 h28 h29 h30 h32 => ?_) t3 ht3
  refine ex_from19 w x y va vb vx vy _ _ _ _ k4 k5 k9 k10 a24 a25 a26 a27 j28 j29 j30 j32 V W4 hV hwV hle4 h24 h25 h26 h27 h28 h29 h30 h32 (fun W5 t5 ht5 hle5 h24 h26 h28 h30 => ?_) t4 ht4
  exact ex_from20 w x y va vb vx vy _ _ _ _ k4 k5 k9 k10 a24 a26 j28 j30 V W5 hV hwV hle5 h24 h26 h28 h30 (opR_rok fun a b => outR_rok _) (opR_rok fun a b => outR_rok _) (opR_rok fun a b => outR_rok _) (opR_rok divE_rok) t5 ht5
set_option maxRecDepth 1000000 in
set_option maxHeartbeats 4000000 in
theorem ex_law (x y : FracA) (va vb : Value) (n d : Int) (w : World) (h1 : IsFracA (fun _ => True) w va x) (h2 : IsFracA (fun _ => True) w vb y) (hn0 : -9223372036854775808 ≤ n) (hn1 : n ≤ 9223372036854775807) (hd0 : -9223372036854775808 ≤ d) (hd1 : d ≤ 9223372036854775807) :
    Calls Try.prog 3 #[va, vb, .int .i64 n, .int .i64 d] w (ExPost w) := by
  have hx0 := h1
  have hy0 := h2
  obtain ⟨A, c, A', c', rfl, p1, p2⟩ := h1
  obtain ⟨B, e, B', e', rfl, q1, q2⟩ := h2
  obtain ⟨W0, hW0, hsz, hle, k0, k1⟩ := new2_le w (.cells #[.bool x.sn, .slice A x.gn.length c, .bool x.sd, .slice A' x.gd.length c'] 26) (.cells #[.bool y.sn, .slice B y.gn.length e, .bool y.sd, .slice B' y.gd.length e'] 26)
  have hz1 := Nat.le_of_eq hsz
  have hz2 := Nat.le_of_eq hsz.symm
  clear hsz
  have hxW := hx0.le hle
  have hyW := hy0.le hle
  obtain ⟨a0, a1, a2, a3⟩ := cells4 k0
  have hgx := pf_n_Great _ x 12 _ W0 (by decide) hxW
  rw [show ((12 : Nat) : Int) = 12 from rfl] at hgx
  have hx0' := Lib.hid hx0
  have hy0' := Lib.hid hy0
  have p1' := Lib.hid p1
  have p2' := Lib.hid p2
  have q1' := Lib.hid q1
  have q2' := Lib.hid q2
  have hle' := Lib.hid hle
  have k0' := Lib.hid k0
  have k1' := Lib.hid k1
  have hxW' := Lib.hid hxW
  have hyW' := Lib.hid hyW
  have hgx' := Lib.hid hgx
  have hn0' := Lib.hid hn0
  have hn1' := Lib.hid hn1
  have hd0' := Lib.hid hd0
  have hd1' := Lib.hid hd1
  clear hd1 hd0 hn1 hn0 hgx hyW hxW k1 k0 hle q2 q1 p2 p1 hy0 hx0
  go_enter Try.func3, Try.ntmps3
  go_wp2_with (fail)
  clear hW0
  go_at_call 5
  refine hgx'.out.mono ?_
  rintro e1 W1 ⟨rfl, hle1⟩
  have hleA := hle'.out.trans hle1
  by_cases hgX : greatB x 12 = true
  · rw [hgX]
    have hleA' := Lib.hid hleA
    have hle1' := Lib.hid hle1
    clear hle1 hleA
    go_wp2
    go_ret
    exact ⟨rfl, hleA'.out⟩
  replace hgX : greatB x 12 = false := by simpa using hgX
  rw [hgX]
  have hyV := hyW'.out.le hle1
  have k0W := box_to hle1 k0'.out
  have k1W := box_to hle1 k1'.out
  have hxV := hxW'.out.le hle1
  clear a0 a1 a2 a3
  obtain ⟨b0, b1, b2, b3⟩ := cells4 k1W
  have hgy := pf_n_Great _ y 12 _ W1 (by decide) hyV
  rw [show ((12 : Nat) : Int) = 12 from rfl] at hgy
  have hleA' := Lib.hid hleA
  have hle1' := Lib.hid hle1
  have hyV' := Lib.hid hyV
  have hxV' := Lib.hid hxV
  have k0W' := Lib.hid k0W
  have k1W' := Lib.hid k1W
  have hgy' := Lib.hid hgy
  have hgX' := Lib.hid hgX
  clear hgX hgy k1W k0W hxV hyV hle1 hleA
  go_wp2_with (fail)
  go_at_call 5
  refine hgy'.out.mono ?_
  rintro e2 W2 ⟨rfl, hle2⟩
  have hleB := hleA'.out.trans hle2
  by_cases hgY : greatB y 12 = true
  · rw [hgY]
    have hleB' := Lib.hid hleB
    have hle2' := Lib.hid hle2
    clear hle2 hleB
    go_wp2
    go_ret
    exact ⟨rfl, hleB'.out⟩
  replace hgY : greatB y 12 = false := by simpa using hgY
  rw [hgY]
  obtain ⟨lx1, lx2⟩ := great_len hgX'.out
  obtain ⟨ly1, ly2⟩ := great_len hgY
  clear b0 b1 b2 b3
  have kx := box_to hle2 k0W'.out
  have ky := box_to hle2 k1W'.out
  have hxa := hxV'.out.le hle2
  have hya := hyV'.out.le hle2
  have hleB' := Lib.hid hleB
  have hle2' := Lib.hid hle2
  have kx' := Lib.hid kx
  have ky' := Lib.hid ky
  have hxa' := Lib.hid hxa
  have hya' := Lib.hid hya
  have hgY' := Lib.hid hgY
  have lx1' := Lib.hid lx1
  have lx2' := Lib.hid lx2
  have ly1' := Lib.hid ly1
  have ly2' := Lib.hid ly2
  clear ly2 ly1 lx2 lx1 hgY hya hxa ky kx hle2 hleB
  go_wp2_with (fail)
  refine wp_region_GT (R := leRel) 6 [some 40, some 41, some 42, some 43, some 9, some 10, none, none] [[], [0], [], [2], [], [], [1, 4], [3, 5]]
    [.eq (.agg #[.bool x.sn, .slice A x.gn.length c, .bool x.sd, .slice A' x.gd.length c']), MPred.frA x, .eq (.agg #[.bool y.sn, .slice B y.gn.length e, .bool y.sd, .slice B' y.gd.length e']), MPred.frA y, MPred.box W2.heap.size (.cells #[.bool false, .slice none 0 0, .bool false, .slice none 0 0] 26), MPred.box W2.heap.size (.cells #[.bool false, .slice none 0 0, .bool false, .slice none 0 0] 26)] (TwoG 4 5) (fun _ _ => False) (by kernel_rfl) (by kernel_rfl) (by kernel_rfl) (by kernel_rfl) (by kernel_rfl) (fun D x' hD => TwoG.start (hD 4 (by decide)) (hD 5 (by decide))) ?_ (fun _ _ _ _ h => h.elim) ?_
  · simp only [List.take_succ_cons, List.take_zero]
    refine stepsG_cons rfl ?_ (stepsG_cons rfl ?_ (stepsG_cons rfl ?_ (stepsG_cons rfl ?_ (stepsG_cons rfl ?_ (stepsG_cons rfl ?_ (stepsG_nil))))))
    · intro D x' W hD hdn hR hf hG Q hK hP
      obtain ⟨a0, a1, a2, a3⟩ := cells4 (box_to (show Le W2 W from hR) kx'.out)
      simp only [fillAct, List.getD_cons_succ, List.getD_cons_zero, Act.put, List.setIfInBounds_toArray, List.set_cons_succ, List.set_cons_zero] at hK ⊢
      go_wp2
      exact hK _ _ (leRel.refl _) rfl (hG.quiet (Le.refl _) (by decide) (by decide))
    · intro D x' W hD hdn hR hf hG Q hK hP
      obtain ⟨e0, -⟩ := hf
      change _ = _ at e0
      simp only [fillAct, List.getD_cons_succ, List.getD_cons_zero, Act.put, List.setIfInBounds_toArray, List.set_cons_succ, List.set_cons_zero, e0] at hK ⊢
      have hcall := pf_copied (fun _ => True) x _ W (Up.any _) (hxa'.out.le hR) lx1'.out lx2'.out
      have hcall' := Lib.hid hcall
      have hG' := Lib.hid hG
      have hR' := Lib.hid hR
      clear hR hG hcall
      go_wp2_with (fail)
      go_at_call 6
      refine hcall'.out.mono ?_
      rintro e w' ⟨v', rfl, y1, y2⟩
      have y3 := y2
      obtain ⟨A1, c1, A2, c2, rfl, -, -⟩ := y2
      have y3' := Lib.hid y3
      clear y3
      go_wp2
      exact hK _ _ y1 y3'.out (hG'.out.quiet y1 (by decide) (by decide))
    · intro D x' W hD hdn hR hf hG Q hK hP
      obtain ⟨a0, a1, a2, a3⟩ := cells4 (box_to (show Le W2 W from hR) ky'.out)
      simp only [fillAct, List.getD_cons_succ, List.getD_cons_zero, Act.put, List.setIfInBounds_toArray, List.set_cons_succ, List.set_cons_zero] at hK ⊢
      go_wp2
      exact hK _ _ (leRel.refl _) rfl (hG.quiet (Le.refl _) (by decide) (by decide))
    · intro D x' W hD hdn hR hf hG Q hK hP
      obtain ⟨e0, -⟩ := hf
      change _ = _ at e0
      simp only [fillAct, List.getD_cons_succ, List.getD_cons_zero, Act.put, List.setIfInBounds_toArray, List.set_cons_succ, List.set_cons_zero, e0] at hK ⊢
      have hcall := pf_copied (fun _ => True) y _ W (Up.any _) (hya'.out.le hR) ly1'.out ly2'.out
      have hcall' := Lib.hid hcall
      have hG' := Lib.hid hG
      have hR' := Lib.hid hR
      clear hR hG hcall
      go_wp2_with (fail)
      go_at_call 6
      refine hcall'.out.mono ?_
      rintro e w' ⟨v', rfl, y1, y2⟩
      have y3 := y2
      obtain ⟨A1, c1, A2, c2, rfl, -, -⟩ := y2
      have y3' := Lib.hid y3
      clear y3
      go_wp2
      exact hK _ _ y1 y3'.out (hG'.out.quiet y1 (by decide) (by decide))
    · intro D x' W hD hdn hR hf hG Q hK hP
      simp only [fillAct, List.getD_cons_succ, List.getD_cons_zero, Act.put, List.setIfInBounds_toArray, List.set_cons_succ, List.set_cons_zero] at hK ⊢
      have hs9 := hR.size
      go_wp2
      exact hK _ _ (le_alloc _ _) ⟨_, rfl, hs9, by unfold World.alloc; exact Array.getElem?_push_size⟩ (hG.left (by decide))
    · intro D x' W hD hdn hR hf hG Q hK hP
      simp only [fillAct, List.getD_cons_succ, List.getD_cons_zero, Act.put, List.setIfInBounds_toArray, List.set_cons_succ, List.set_cons_zero] at hK ⊢
      have hs9 := hR.size
      go_wp2
      exact hK _ _ (le_alloc _ _) ⟨_, rfl, hs9, by unfold World.alloc; exact Array.getElem?_push_size⟩ (hG.right (by decide))
  · intro D x' W hD hR hf hG Q' hQ1 _
    have e0 := hf 0 (by decide)
    have e2 := hf 2 (by decide)
    change _ = _ at e0 e2
    have hra : IsFracA (fun _ => True) W (x' 1) x := hf 1 (by decide)
    have hrb : IsFracA (fun _ => True) W (x' 3) y := hf 3 (by decide)
    obtain ⟨k4, q4, hk4, hx4⟩ := hf 4 (by decide)
    obtain ⟨k5, q5, hk5, hx5⟩ := hf 5 (by decide)
    replace q4 : x' 4 = _ := q4
    replace q5 : x' 5 = _ := q5
    have hne := hG.ne (hD 4 (by decide)) (hD 5 (by decide))
    rw [q4, q5] at hne
    have hne2 : k5 ≠ k4 := fun h => hne (by rw [h])
    obtain ⟨C1, f1, C2, f2, r1, m1, m2⟩ := hra
    have hra : IsFracA (fun _ => True) W (.agg #[.bool x.sn, .slice C1 x.gn.length f1, .bool x.sd, .slice C2 x.gd.length f2]) x := ⟨C1, f1, C2, f2, rfl, m1, m2⟩
    obtain ⟨D1, f3, D2, f4, r3, m3, m4⟩ := hrb
    have hrb : IsFracA (fun _ => True) W (.agg #[.bool y.sn, .slice D1 y.gn.length f3, .bool y.sd, .slice D2 y.gd.length f4]) y := ⟨D1, f3, D2, f4, rfl, m3, m4⟩
    simp only [List.drop_succ_cons, List.drop_zero]
    rw [show List.range 6 = [0, 1, 2, 3, 4, 5] from rfl]
    simp only [fillAct, List.getD_cons_succ, List.getD_cons_zero, Act.put, List.setIfInBounds_toArray, List.set_cons_succ, List.set_cons_zero, e0, e2, r1, r3, q4, q5]
    clear e0 e2 r1 r3 q4 q5 hf hG hD hne m1 m2 m3 m4
    obtain ⟨V1, hV1, hle1, j4, j5, hra1, hrb1⟩ : ∃ V1, (((W.setCell ⟨k4, 0, none⟩ (.bool x.sn)).setCell ⟨k4, 1, none⟩ (.slice C1 x.gn.length f1)).setCell ⟨k4, 2, none⟩ (.bool x.sd)).setCell ⟨k4, 3, none⟩ (.slice C2 x.gd.length f2) = V1 ∧ Le W2 V1 ∧ V1.heap[k4]? = some (.cells #[.bool x.sn, .slice C1 x.gn.length f1, .bool x.sd, .slice C2 x.gd.length f2] 26) ∧ V1.heap[k5]? = some (.cells #[.bool false, .slice none 0 0, .bool false, .slice none 0 0] 26) ∧ IsFracA (fun _ => True) V1 (.agg #[.bool x.sn, .slice C1 x.gn.length f1, .bool x.sd, .slice C2 x.gd.length f2]) x ∧ IsFracA (fun _ => True) V1 (.agg #[.bool y.sn, .slice D1 y.gn.length f3, .bool y.sd, .slice D2 y.gd.length f4]) y :=
      ⟨_, rfl, le_set4 hR hk4, heap_set4 hx4, ((Below.heap_setCell _ _ _ _ hne2).trans ((Below.heap_setCell _ _ _ _ hne2).trans ((Below.heap_setCell _ _ _ _ hne2).trans (Below.heap_setCell _ _ _ _ hne2)))).trans hx5, hra.box4 hx4, hrb.box4 hx4⟩
    obtain ⟨V2, hV2, hle2, l4, l5, hra2, hrb2⟩ : ∃ V2, (((V1.setCell ⟨k5, 0, none⟩ (.bool y.sn)).setCell ⟨k5, 1, none⟩ (.slice D1 y.gn.length f3)).setCell ⟨k5, 2, none⟩ (.bool y.sd)).setCell ⟨k5, 3, none⟩ (.slice D2 y.gd.length f4) = V2 ∧ Le W2 V2 ∧ V2.heap[k4]? = some (.cells #[.bool x.sn, .slice C1 x.gn.length f1, .bool x.sd, .slice C2 x.gd.length f2] 26) ∧ V2.heap[k5]? = some (.cells #[.bool y.sn, .slice D1 y.gn.length f3, .bool y.sd, .slice D2 y.gd.length f4] 26) ∧ IsFracA (fun _ => True) V2 (.agg #[.bool x.sn, .slice C1 x.gn.length f1, .bool x.sd, .slice C2 x.gd.length f2]) x ∧ IsFracA (fun _ => True) V2 (.agg #[.bool y.sn, .slice D1 y.gn.length f3, .bool y.sd, .slice D2 y.gd.length f4]) y :=
      ⟨_, rfl, le_set4 hle1 hk5, ((Below.heap_setCell _ _ _ _ (Ne.symm hne2)).trans ((Below.heap_setCell _ _ _ _ (Ne.symm hne2)).trans ((Below.heap_setCell _ _ _ _ (Ne.symm hne2)).trans (Below.heap_setCell _ _ _ _ (Ne.symm hne2))))).trans j4, heap_set4 j5, hra1.box4 j5, hrb1.box4 j5⟩
    have hne3 : ¬ k5 = k4 := hne2
    have hne4 : ¬ k4 = k5 := fun h => hne2 h.symm
    obtain ⟨a0, a1, a2, a3⟩ := cells4 hx4
    obtain ⟨b0, b1, b2, b3⟩ := cells4 j5
    have z0 := frozen00 hx4 0
    have z1 := frozen00 hx4 1
    have z2 := frozen00 hx4 2
    have z3 := frozen00 hx4 3
    have y0 := frozen00 j5 0
    have y1 := frozen00 j5 1
    have y2 := frozen00 j5 2
    have y3 := frozen00 j5 3
    have hR' := Lib.hid hR
    have hle1' := Lib.hid hle1
    have hle2' := Lib.hid hle2
    have hx4' := Lib.hid hx4
    have hx5' := Lib.hid hx5
    have j4' := Lib.hid j4
    have j5' := Lib.hid j5
    have l4' := Lib.hid l4
    have l5' := Lib.hid l5
    have hra' := Lib.hid hra
    have hrb' := Lib.hid hrb
    have hra1' := Lib.hid hra1
    have hrb1' := Lib.hid hrb1
    have hra2' := Lib.hid hra2
    have hrb2' := Lib.hid hrb2
    clear hrb2 hra2 hrb1 hra1 hrb hra l5 l4 j5 j4 hx5 hx4 hle2 hle1 hR
    go_wp2
    clear a0 a1 a2 a3 b0 b1 b2 b3 z0 z1 z2 z3 y0 y1 y2 y3
    refine hQ1 _ _ ?_
    clear hV1 hV2
    have hVF : VF V2 _ _ k4 k5 _ _ _ _ x y := ⟨⟨_, _, _, _, rfl, box_to hle2'.out kx'.out, hxa'.out.le hle2'.out⟩, ⟨_, _, _, _, rfl, box_to hle2'.out ky'.out, hya'.out.le hle2'.out⟩, ⟨_, _, _, _, rfl, l4'.out, hra2'.out⟩, ⟨_, _, _, _, rfl, l5'.out, hrb2'.out⟩⟩
    have hjoin := ex_join w x y _ _ _ _ n d _ _ k4 k5 V2 hVF (hleB'.out.trans hle2'.out) hn0'.out hn1'.out hd0'.out hd1'.out
    have hjoin' := Lib.hid hjoin
    have hVF' := Lib.hid hVF
    clear hVF hjoin
    go_upto_region 4 with (fail)
    exact hjoin'.out _ (frame_mkN _ _ (by kernel_rfl)) _ (by assumption)
theorem wf_i64 {n : Int} (h : (Lit.int .i64 n).wf = true) : -9223372036854775808 ≤ n ∧ n ≤ 9223372036854775807 := by
  have h1 : IntKind.i64.min ≤ n ∧ n ≤ IntKind.i64.max := by simpa [Lit.wf] using h
  have e1 : IntKind.i64.min = -9223372036854775808 := by kernel_rfl
  have e2 : IntKind.i64.max = 9223372036854775807 := by kernel_rfl
  rw [e1, e2] at h1
  exact h1
theorem law_ExactFracs (a0 : FracA) (x0 : Value) (a1 : FracA) (x1 : Value) (a2 a3 : Int) (w : World) (w0 : IsFracA (fun _ => True) w x0 a0) (w1 : IsFracA (fun _ => True) w x1 a1) (w2 : (Lit.int .i64 a2).wf = true) (w3 : (Lit.int .i64 a3).wf = true) :
    Calls Try.prog 3 #[x0, x1, .int .i64 a2, .int .i64 a3] w fun e w' => e = .returned (.bool true) ∧ Below w.heap.size w w' :=
  ex_law a0 a1 x0 x1 a2 a3 w w0 w1 (wf_i64 w2).1 (wf_i64 w2).2 (wf_i64 w3).1 (wf_i64 w3).2
end Go.Proofs.Ytemdemfknnkcaaa
