/- law 1, ExactFracs: region 10. -/
import Derived.Test.YtemdemfknnkcaaaExA
namespace Go.Proofs.Ytemdemfknnkcaaa
open Go.RowKit Go.Shelf
set_option linter.unusedVariables false
set_option linter.unusedSimpArgs false
def MPred.frA (x : FracA) : MPred := ⟨fun v w => IsFracA (fun _ => True) w v x, fun _ _ _ hb h => h.le hb⟩
set_option maxRecDepth 1000000 in
set_option maxHeartbeats 8000000 in
theorem ex_from10 (w : World) (x y : FracA) (va vb vx vy : Value) (n d cv ce n1 n2 : Int) (r19 : Except Int Rat) (k4 k5 k9 k10 j19 j21 : Nat) (V W0 : World) (hV : VF V k4 k5 k9 k10 va vb vx vy x y) (hle : Le V W0) (h19 : RB V W0 j19 r19) (h21 : RB V W0 j21 r19) (hn0 : -9223372036854775808 ≤ n) (hn1 : n ≤ 9223372036854775807) (hd0 : -9223372036854775808 ≤ d) (hd1 : d ≤ 9223372036854775807)
    (next : ∀ (W : World) (t : Array Value), (∃ u : Nat → Value, t = #[(u 0), (u 1), (u 2), (u 3), .pointer (some ⟨k4, 0, none⟩), .pointer (some ⟨k5, 0, none⟩), (u 6), (u 7), (u 8), .pointer (some ⟨k9, 0, none⟩), .pointer (some ⟨k10, 0, none⟩), (u 11), (u 12), (u 13), (u 14), (u 15), (u 16), (u 17), (u 18), (u 19), (u 20), (u 21), (u 22), .bool true, (u 24), (u 25), (u 26), (u 27), (u 28), (u 29), (u 30), (u 31), (u 32), (u 33), (u 34), (u 35), (u 36), (u 37), (u 38), (u 39), (u 40), (u 41), (u 42), (u 43), (u 44), (u 45), (u 46), (u 47), (u 48), (u 49), (u 50), (u 51), (u 52), (u 53), (u 54), (u 55), (u 56), (u 57), (u 58), (u 59), (u 60), (u 61), (u 62), (u 63), (u 64), (u 65), (u 66), (u 67), (u 68), (u 69), (u 70), (u 71), (u 72), (u 73), (u 74), (u 75), (u 76), (u 77), (u 78), (u 79), (u 80), (u 81), (u 82), (u 83), (u 84), (u 85), (u 86), (u 87), (u 88), (u 89), (u 90), (u 91), (u 92), (u 93), (u 94), (u 95), (u 96), (u 97), (u 98), (u 99), (u 100), (u 101), (u 102), (u 103), (u 104), (u 105), (u 106), (u 107), (u 108), (u 109), (u 110), (u 111), (u 112), (u 113), (u 114), (u 115), (u 116), (u 117), (u 118), (u 119), (u 120), (u 121), (u 122), (u 123), (u 124), (u 125), (u 126), (u 127), (u 128), (u 129), (u 130), (u 131), (u 132), (u 133), (u 134), (u 135), (u 136), (u 137), (u 138), (u 139), (u 140), (u 141), (u 142), (u 143), (u 144), (u 145), (u 146), (u 147), (u 148), (u 149), (u 150), (u 151), (u 152), (u 153), (u 154), (u 155), (u 156), (u 157), (u 158), (u 159), (u 160), (u 161), (u 162), (u 163), (u 164), (u 165), (u 166), (u 167), (u 168), (u 169), (u 170), (u 171), (u 172), (u 173), (u 174), (u 175), (u 176), (u 177), (u 178), (u 179), (u 180), (u 181), (u 182), (u 183), (u 184), (u 185), (u 186), (u 187), (u 188), (u 189), (u 190), (u 191), (u 192), (u 193), (u 194), (u 195), (u 196), (u 197), (u 198), (u 199), (u 200), (u 201), (u 202), (u 203), (u 204), (u 205), (u 206), (u 207), (u 208), (u 209), (u 210), (u 211), (u 212), (u 213), (u 214), (u 215), (u 216), (u 217), (u 218), (u 219), (u 220), (u 221), (u 222), (u 223), (u 224), (u 225), (u 226), (u 227)]) → Le V W → ExFrom 11 w t W)
    (t : Array Value) (ht : ∃ u : Nat → Value, t = #[(u 0), (u 1), .int .i64 n, .int .i64 d, .pointer (some ⟨k4, 0, none⟩), .pointer (some ⟨k5, 0, none⟩), (u 6), (u 7), (u 8), .pointer (some ⟨k9, 0, none⟩), .pointer (some ⟨k10, 0, none⟩), .int .i64 cv, .int .i64 ce, .int .i64 cv, .int .i64 ce, .int .i64 n1, .int .i64 n2, .int .i64 n1, .int .i64 n2, .pointer (some ⟨j19, 0, none⟩), .int .i64 (codeR r19), .pointer (some ⟨j21, 0, none⟩), .int .i64 (codeR r19), (u 23), (u 24), (u 25), (u 26), (u 27), (u 28), (u 29), (u 30), (u 31), (u 32), (u 33), (u 34), (u 35), (u 36), (u 37), (u 38), (u 39), (u 40), (u 41), (u 42), (u 43), (u 44), (u 45), (u 46), (u 47), (u 48), (u 49), (u 50), (u 51), (u 52), (u 53), (u 54), (u 55), (u 56), (u 57), (u 58), (u 59), (u 60), (u 61), (u 62), (u 63), (u 64), (u 65), (u 66), (u 67), (u 68), (u 69), (u 70), (u 71), (u 72), (u 73), (u 74), (u 75), (u 76), (u 77), (u 78), (u 79), (u 80), (u 81), (u 82), (u 83), (u 84), (u 85), (u 86), (u 87), (u 88), (u 89), (u 90), (u 91), (u 92), (u 93), (u 94), (u 95), (u 96), (u 97), (u 98), (u 99), (u 100), (u 101), (u 102), (u 103), (u 104), (u 105), (u 106), (u 107), (u 108), (u 109), (u 110), (u 111), (u 112), (u 113), (u 114), (u 115), (u 116), (u 117), (u 118), (u 119), (u 120), (u 121), (u 122), (u 123), (u 124), (u 125), (u 126), (u 127), (u 128), (u 129), (u 130), (u 131), (u 132), (u 133), (u 134), (u 135), (u 136), (u 137), (u 138), (u 139), (u 140), (u 141), (u 142), (u 143), (u 144), (u 145), (u 146), (u 147), (u 148), (u 149), (u 150), (u 151), (u 152), (u 153), (u 154), (u 155), (u 156), (u 157), (u 158), (u 159), (u 160), (u 161), (u 162), (u 163), (u 164), (u 165), (u 166), (u 167), (u 168), (u 169), (u 170), (u 171), (u 172), (u 173), (u 174), (u 175), (u 176), (u 177), (u 178), (u 179), (u 180), (u 181), (u 182), (u 183), (u 184), (u 185), (u 186), (u 187), (u 188), (u 189), (u 190), (u 191), (u 192), (u 193), (u 194), (u 195), (u 196), (u 197), (u 198), (u 199), (u 200), (u 201), (u 202), (u 203), (u 204), (u 205), (u 206), (u 207), (u 208), (u 209), (u 210), (u 211), (u 212), (u 213), (u 214), (u 215), (u 216), (u 217), (u 218), (u 219), (u 220), (u 221), (u 222), (u 223), (u 224), (u 225), (u 226), (u 227)]) : ExFrom 10 w t W0 := by
  intro K hK
  obtain ⟨u, rfl⟩ := ht
  obtain ⟨kc, ekc⟩ : ∃ k, okE (okA x) = k := ⟨_, rfl⟩
  obtain ⟨A4, c4, B4, d4, rfl, g4, i4⟩ := hV.a
  obtain ⟨A9, c9, B9, d9, rfl, g9, i9⟩ := hV.x
  obtain ⟨-, s19, A19, n19, c19, t19, B19, m19, d19, q19, p19⟩ := h19
  obtain ⟨-, s21, A21, n21, c21, t21, B21, m21, d21, q21, p21⟩ := h21
  have x4 := box_to hle g4
  have x9 := box_to hle g9
  have y4 := i4.le hle
  have y9 := i9.le hle
  have z19 := p19.fracA
  have z21 := p21.fracA
  conv => arg 2; whnf
  have hV' := Lib.hid hV
  have hle' := Lib.hid hle
  have next' := Lib.hid next
  have g4' := Lib.hid g4
  have g9' := Lib.hid g9
  have i4' := Lib.hid i4
  have i9' := Lib.hid i9
  have x4' := Lib.hid x4
  have x9' := Lib.hid x9
  have y4' := Lib.hid y4
  have y9' := Lib.hid y9
  have q19' := Lib.hid q19
  have q21' := Lib.hid q21
  have p19' := Lib.hid p19
  have p21' := Lib.hid p21
  have z19' := Lib.hid z19
  have z21' := Lib.hid z21
  have ekc' := Lib.hid ekc
  have hn0' := Lib.hid hn0
  have hn1' := Lib.hid hn1
  have hd0' := Lib.hid hd0
  have hd1' := Lib.hid hd1
  clear hd1 hd0 hn1 hn0 ekc z21 z19 p21 p19 q21 q19 y9 y4 x9 x4 i9 i4 g9 g4 next hle hV
  refine wp_region_monoL (R := leRel) 42 [some 78, some 79, some 80, some 81, some 82, some 83, some 84, some 85, some 86, some 87, some 88, some 89, some 90, some 91, some 92, some 93, some 94, some 95, some 96, some 97, some 98, some 99, some 100, some 101, some 102, some 103, some 104, some 105, some 106, some 107, some 108, some 109, some 110, some 111, some 112, some 113, some 114, some 115, some 116, some 117, some 118, some 119, some 23] [[], [0], [], [2], [1, 3], [4], [5], [5, 6], [5], [5, 8], [5, 7, 9], [5, 10], [11], [12], [12], [12, 13, 14], [12, 15], [16], [17], [17], [17, 18, 19], [17, 20], [21], [22], [22], [22, 23, 24], [22, 25], [26], [27], [27], [27, 28, 29], [27, 30], [31], [32], [32], [32, 33, 34], [32, 35], [36], [37], [37], [37, 38, 39], [37, 40], [41]]
    [.eq (.agg #[.bool x.sn, .slice A9 x.gn.length c9, .bool x.sd, .slice B9 x.gd.length d9]), .eq (.int .i64 kc), .eq (.agg #[.bool x.sn, .slice A4 x.gn.length c4, .bool x.sd, .slice B4 x.gd.length d4]), .eq (.int .i64 kc), .eq (.bool true), .eq (.bool true), .eq (.int .i64 n), MPred.frA ⟨rneg (n : Rat), dg (rnum (n : Rat)), false, dg (n : Rat).den⟩, .eq (.int .i64 n), MPred.frA ⟨rneg (n : Rat), dg (rnum (n : Rat)), false, dg (n : Rat).den⟩, .eq (.bool true), .eq (.bool true), .eq (.bool true), .eq (.int .i64 cv), .eq (.int .i64 cv), .eq (.bool true), .eq (.bool true), .eq (.bool true), .eq (.int .i64 ce), .eq (.int .i64 ce), .eq (.bool true), .eq (.bool true), .eq (.bool true), .eq (.int .i64 n1), .eq (.int .i64 n1), .eq (.bool true), .eq (.bool true), .eq (.bool true), .eq (.int .i64 n2), .eq (.int .i64 n2), .eq (.bool true), .eq (.bool true), .eq (.bool true), .eq (.agg #[.bool s19, .slice A19 n19 c19, .bool t19, .slice B19 m19 d19]), .eq (.agg #[.bool s21, .slice A21 n21 c21, .bool t21, .slice B21 m21 d21]), .eq (.bool true), .eq (.bool true), .eq (.bool true), .eq (.int .i64 (codeR r19)), .eq (.int .i64 (codeR r19)), .eq (.bool true), .eq (.bool true)] (fun _ _ => False) (by kernel_rfl) (by kernel_rfl) (by kernel_rfl) (by kernel_rfl) ?_ (fun _ _ _ _ _ h => h.elim) ?_
  · simp only [List.take_succ_cons, List.take_zero]
    refine monoSteps_cons ?_ (monoSteps_cons ?_ (monoSteps_cons ?_ (monoSteps_cons ?_ (monoSteps_cons ?_ (monoSteps_cons ?_ (monoSteps_cons ?_ (monoSteps_cons ?_ (monoSteps_cons ?_ (monoSteps_cons ?_ (monoSteps_cons ?_ (monoSteps_cons ?_ (monoSteps_cons ?_ (monoSteps_cons ?_ (monoSteps_cons ?_ (monoSteps_cons ?_ (monoSteps_cons ?_ (monoSteps_cons ?_ (monoSteps_cons ?_ (monoSteps_cons ?_ (monoSteps_cons ?_ (monoSteps_cons ?_ (monoSteps_cons ?_ (monoSteps_cons ?_ (monoSteps_cons ?_ (monoSteps_cons ?_ (monoSteps_cons ?_ (monoSteps_cons ?_ (monoSteps_cons ?_ (monoSteps_cons ?_ (monoSteps_cons ?_ (monoSteps_cons ?_ (monoSteps_cons ?_ (monoSteps_cons ?_ (monoSteps_cons ?_ (monoSteps_cons ?_ (monoSteps_cons ?_ (monoSteps_cons ?_ (monoSteps_cons ?_ (monoSteps_cons ?_ (monoSteps_cons ?_ (monoSteps_cons ?_ (monoSteps_nil))))))))))))))))))))))))))))))))))))))))))
    · refine monoStep_list rfl fun x' W hR hf Q hK' _ => ?_
      obtain ⟨a0, a1, a2, a3⟩ := cells4 (box_to (show Le W0 W from hR) x9'.out)
      simp only [fillAct, List.getD_cons_succ, List.getD_cons_zero, Act.put, List.setIfInBounds_toArray, List.set_cons_succ, List.set_cons_zero] at hK' ⊢
      go_wp2
      exact hK' _ _ (leRel.refl _) rfl
    · refine monoStep_list rfl fun x' W hR hf Q hK' _ => ?_
      obtain ⟨e0, -⟩ := hf
      change _ = _ at e0
      simp only [fillAct, List.getD_cons_succ, List.getD_cons_zero, Act.put, List.setIfInBounds_toArray, List.set_cons_succ, List.set_cons_zero, e0] at hK' ⊢
      have hcall := pf_CheckFrac (fun _ => True) x _ W (Up.any _) (y9'.out.le hR)
      rw [ekc'.out] at hcall
      have hcall' := Lib.hid hcall
      clear hcall
      go_wp2_with (fail)
      go_at_call 13
      refine hcall'.out.mono ?_
      rintro e w' ⟨rfl, y1⟩
      go_wp2
      exact hK' _ _ y1 rfl
    · refine monoStep_list rfl fun x' W hR hf Q hK' _ => ?_
      obtain ⟨a0, a1, a2, a3⟩ := cells4 (box_to (show Le W0 W from hR) x4'.out)
      simp only [fillAct, List.getD_cons_succ, List.getD_cons_zero, Act.put, List.setIfInBounds_toArray, List.set_cons_succ, List.set_cons_zero] at hK' ⊢
      go_wp2
      exact hK' _ _ (leRel.refl _) rfl
    · refine monoStep_list rfl fun x' W hR hf Q hK' _ => ?_
      obtain ⟨e0, -⟩ := hf
      change _ = _ at e0
      simp only [fillAct, List.getD_cons_succ, List.getD_cons_zero, Act.put, List.setIfInBounds_toArray, List.set_cons_succ, List.set_cons_zero, e0] at hK' ⊢
      have hcall := pf_n_CheckFrac (fun _ => True) (fun _ => True) x _ W (Up.any _) (y4'.out.le hR)
      rw [ekc'.out] at hcall
      have hcall' := Lib.hid hcall
      clear hcall
      go_wp2_with (fail)
      go_at_call 14
      refine hcall'.out.mono ?_
      rintro e w' ⟨rfl, y1⟩
      go_wp2
      exact hK' _ _ y1 rfl
    · refine monoStep_list rfl fun x' W hR hf Q hK' _ => ?_
      obtain ⟨e0, e1, -⟩ := hf
      change _ = _ at e0 e1
      simp only [fillAct, List.getD_cons_succ, List.getD_cons_zero, Act.put, List.setIfInBounds_toArray, List.set_cons_succ, List.set_cons_zero, e0, e1] at hK' ⊢
      go_wp2
      exact hK' _ _ (leRel.refl _) rfl
    · refine monoStep_list rfl fun x' W hR hf Q hK' _ => ?_
      obtain ⟨e0, -⟩ := hf
      change _ = _ at e0
      simp only [fillAct, List.getD_cons_succ, List.getD_cons_zero, Act.put, List.setIfInBounds_toArray, List.set_cons_succ, List.set_cons_zero, e0] at hK' ⊢
      go_wp2
      exact hK' _ _ (leRel.refl _) rfl
    · refine monoStep_listG (fun x' W hf => ?_) fun x' W hR hf Q hK' _ => ?_
      · obtain ⟨e0, -⟩ := hf
        change _ = _ at e0
        simp only [fillAct, List.getD_cons_succ, List.getD_cons_zero, Act.put, List.setIfInBounds_toArray, List.set_cons_succ, List.set_cons_zero, e0]
        kernel_rfl
      obtain ⟨e0, -⟩ := hf
      change _ = _ at e0
      simp only [fillAct, List.getD_cons_succ, List.getD_cons_zero, Act.put, List.setIfInBounds_toArray, List.set_cons_succ, List.set_cons_zero, e0] at hK' ⊢
      go_wp2
      exact hK' _ _ (leRel.refl _) rfl
    · refine monoStep_listG (fun x' W hf => ?_) fun x' W hR hf Q hK' _ => ?_
      · obtain ⟨e0, e1, -⟩ := hf
        change _ = _ at e0 e1
        simp only [fillAct, List.getD_cons_succ, List.getD_cons_zero, Act.put, List.setIfInBounds_toArray, List.set_cons_succ, List.set_cons_zero, e0, e1]
        kernel_rfl
      obtain ⟨e0, e1, -⟩ := hf
      change _ = _ at e0 e1
      simp only [fillAct, List.getD_cons_succ, List.getD_cons_zero, Act.put, List.setIfInBounds_toArray, List.set_cons_succ, List.set_cons_zero, e0, e1] at hK' ⊢
      have hcall := pf_FromInt (fun _ => True) n W (Up.any _) hn0'.out hn1'.out
      have hcall' := Lib.hid hcall
      clear hcall
      go_wp2_with (fail)
      go_at_call 16
      refine hcall'.out.mono ?_
      rintro e w' ⟨v', rfl, y1, y2⟩
      have y3 := y2.fracA
      obtain ⟨A1, c1, A2, c2, rfl, -, -⟩ := y2
      have y3' := Lib.hid y3
      clear y3
      go_wp2
      exact hK' _ _ y1 y3'.out
    · refine monoStep_listG (fun x' W hf => ?_) fun x' W hR hf Q hK' _ => ?_
      · obtain ⟨e0, -⟩ := hf
        change _ = _ at e0
        simp only [fillAct, List.getD_cons_succ, List.getD_cons_zero, Act.put, List.setIfInBounds_toArray, List.set_cons_succ, List.set_cons_zero, e0]
        kernel_rfl
      obtain ⟨e0, -⟩ := hf
      change _ = _ at e0
      simp only [fillAct, List.getD_cons_succ, List.getD_cons_zero, Act.put, List.setIfInBounds_toArray, List.set_cons_succ, List.set_cons_zero, e0] at hK' ⊢
      go_wp2
      exact hK' _ _ (leRel.refl _) rfl
    · refine monoStep_listG (fun x' W hf => ?_) fun x' W hR hf Q hK' _ => ?_
      · obtain ⟨e0, e1, -⟩ := hf
        change _ = _ at e0 e1
        simp only [fillAct, List.getD_cons_succ, List.getD_cons_zero, Act.put, List.setIfInBounds_toArray, List.set_cons_succ, List.set_cons_zero, e0, e1]
        kernel_rfl
      obtain ⟨e0, e1, -⟩ := hf
      change _ = _ at e0 e1
      simp only [fillAct, List.getD_cons_succ, List.getD_cons_zero, Act.put, List.setIfInBounds_toArray, List.set_cons_succ, List.set_cons_zero, e0, e1] at hK' ⊢
      have hcall := pf_n_FromInt (fun _ => True) n W (Up.any _) hn0'.out hn1'.out
      have hcall' := Lib.hid hcall
      clear hcall
      go_wp2_with (fail)
      go_at_call 17
      refine hcall'.out.mono ?_
      rintro e w' ⟨v', rfl, y1, y2⟩
      have y3 := y2.fracA
      obtain ⟨A1, c1, A2, c2, rfl, -, -⟩ := y2
      have y3' := Lib.hid y3
      clear y3
      go_wp2
      exact hK' _ _ y1 y3'.out
    · refine monoStep_listG (fun x' W hf => ?_) fun x' W hR hf Q hK' _ => ?_
      · obtain ⟨e0, e1, e2, -⟩ := hf
        change _ = _ at e0
        simp only [fillAct, List.getD_cons_succ, List.getD_cons_zero, Act.put, List.setIfInBounds_toArray, List.set_cons_succ, List.set_cons_zero, e0]
        kernel_rfl
      obtain ⟨e0, e1, e2, -⟩ := hf
      change _ = _ at e0
      replace e1 : IsFracA (fun _ => True) W (x' 7) _ := e1
      replace e2 : IsFracA (fun _ => True) W (x' 9) _ := e2
      simp only [fillAct, List.getD_cons_succ, List.getD_cons_zero, Act.put, List.setIfInBounds_toArray, List.set_cons_succ, List.set_cons_zero, e0] at hK' ⊢
      have hcall := pf_n_SameFrac (fun _ => True) (fun _ => True) _ _ _ _ W e1 e2
      rw [sameF_self] at hcall
      have hcall' := Lib.hid hcall
      clear hcall
      go_wp2_with (fail)
      go_at_call 15
      refine hcall'.out.mono ?_
      rintro e w' ⟨rfl, y1⟩
      go_wp2
      exact hK' _ _ y1 rfl
    · refine monoStep_list rfl fun x' W hR hf Q hK' _ => ?_
      obtain ⟨e0, e1, -⟩ := hf
      change _ = _ at e0 e1
      simp only [fillAct, List.getD_cons_succ, List.getD_cons_zero, Act.put, List.setIfInBounds_toArray, List.set_cons_succ, List.set_cons_zero, e0, e1] at hK' ⊢
      go_wp2
      exact hK' _ _ (leRel.refl _) rfl
    · refine monoStep_list rfl fun x' W hR hf Q hK' _ => ?_
      obtain ⟨e0, -⟩ := hf
      change _ = _ at e0
      simp only [fillAct, List.getD_cons_succ, List.getD_cons_zero, Act.put, List.setIfInBounds_toArray, List.set_cons_succ, List.set_cons_zero, e0] at hK' ⊢
      go_wp2
      exact hK' _ _ (leRel.refl _) rfl
    · refine monoStep_listG (fun x' W hf => ?_) fun x' W hR hf Q hK' _ => ?_
      · obtain ⟨e0, -⟩ := hf
        change _ = _ at e0
        simp only [fillAct, List.getD_cons_succ, List.getD_cons_zero, Act.put, List.setIfInBounds_toArray, List.set_cons_succ, List.set_cons_zero, e0]
        kernel_rfl
      obtain ⟨e0, -⟩ := hf
      change _ = _ at e0
      simp only [fillAct, List.getD_cons_succ, List.getD_cons_zero, Act.put, List.setIfInBounds_toArray, List.set_cons_succ, List.set_cons_zero, e0] at hK' ⊢
      go_wp2
      exact hK' _ _ (leRel.refl _) rfl
    · refine monoStep_listG (fun x' W hf => ?_) fun x' W hR hf Q hK' _ => ?_
      · obtain ⟨e0, -⟩ := hf
        change _ = _ at e0
        simp only [fillAct, List.getD_cons_succ, List.getD_cons_zero, Act.put, List.setIfInBounds_toArray, List.set_cons_succ, List.set_cons_zero, e0]
        kernel_rfl
      obtain ⟨e0, -⟩ := hf
      change _ = _ at e0
      simp only [fillAct, List.getD_cons_succ, List.getD_cons_zero, Act.put, List.setIfInBounds_toArray, List.set_cons_succ, List.set_cons_zero, e0] at hK' ⊢
      go_wp2
      exact hK' _ _ (leRel.refl _) rfl
    · refine monoStep_listG (fun x' W hf => ?_) fun x' W hR hf Q hK' _ => ?_
      · obtain ⟨e0, e1, e2, -⟩ := hf
        change _ = _ at e0 e1 e2
        simp only [fillAct, List.getD_cons_succ, List.getD_cons_zero, Act.put, List.setIfInBounds_toArray, List.set_cons_succ, List.set_cons_zero, e0, e1, e2]
        kernel_rfl
      obtain ⟨e0, e1, e2, -⟩ := hf
      change _ = _ at e0 e1 e2
      simp only [fillAct, List.getD_cons_succ, List.getD_cons_zero, Act.put, List.setIfInBounds_toArray, List.set_cons_succ, List.set_cons_zero, e0, e1, e2] at hK' ⊢
      go_wp2
      exact hK' _ _ (leRel.refl _) rfl
    · refine monoStep_list rfl fun x' W hR hf Q hK' _ => ?_
      obtain ⟨e0, e1, -⟩ := hf
      change _ = _ at e0 e1
      simp only [fillAct, List.getD_cons_succ, List.getD_cons_zero, Act.put, List.setIfInBounds_toArray, List.set_cons_succ, List.set_cons_zero, e0, e1] at hK' ⊢
      go_wp2
      exact hK' _ _ (leRel.refl _) rfl
    · refine monoStep_list rfl fun x' W hR hf Q hK' _ => ?_
      obtain ⟨e0, -⟩ := hf
      change _ = _ at e0
      simp only [fillAct, List.getD_cons_succ, List.getD_cons_zero, Act.put, List.setIfInBounds_toArray, List.set_cons_succ, List.set_cons_zero, e0] at hK' ⊢
      go_wp2
      exact hK' _ _ (leRel.refl _) rfl
    · refine monoStep_listG (fun x' W hf => ?_) fun x' W hR hf Q hK' _ => ?_
      · obtain ⟨e0, -⟩ := hf
        change _ = _ at e0
        simp only [fillAct, List.getD_cons_succ, List.getD_cons_zero, Act.put, List.setIfInBounds_toArray, List.set_cons_succ, List.set_cons_zero, e0]
        kernel_rfl
      obtain ⟨e0, -⟩ := hf
      change _ = _ at e0
      simp only [fillAct, List.getD_cons_succ, List.getD_cons_zero, Act.put, List.setIfInBounds_toArray, List.set_cons_succ, List.set_cons_zero, e0] at hK' ⊢
      go_wp2
      exact hK' _ _ (leRel.refl _) rfl
    · refine monoStep_listG (fun x' W hf => ?_) fun x' W hR hf Q hK' _ => ?_
      · obtain ⟨e0, -⟩ := hf
        change _ = _ at e0
        simp only [fillAct, List.getD_cons_succ, List.getD_cons_zero, Act.put, List.setIfInBounds_toArray, List.set_cons_succ, List.set_cons_zero, e0]
        kernel_rfl
      obtain ⟨e0, -⟩ := hf
      change _ = _ at e0
      simp only [fillAct, List.getD_cons_succ, List.getD_cons_zero, Act.put, List.setIfInBounds_toArray, List.set_cons_succ, List.set_cons_zero, e0] at hK' ⊢
      go_wp2
      exact hK' _ _ (leRel.refl _) rfl
    · refine monoStep_listG (fun x' W hf => ?_) fun x' W hR hf Q hK' _ => ?_
      · obtain ⟨e0, e1, e2, -⟩ := hf
        change _ = _ at e0 e1 e2
        simp only [fillAct, List.getD_cons_succ, List.getD_cons_zero, Act.put, List.setIfInBounds_toArray, List.set_cons_succ, List.set_cons_zero, e0, e1, e2]
        kernel_rfl
      obtain ⟨e0, e1, e2, -⟩ := hf
      change _ = _ at e0 e1 e2
      simp only [fillAct, List.getD_cons_succ, List.getD_cons_zero, Act.put, List.setIfInBounds_toArray, List.set_cons_succ, List.set_cons_zero, e0, e1, e2] at hK' ⊢
      go_wp2
      exact hK' _ _ (leRel.refl _) rfl
    · refine monoStep_list rfl fun x' W hR hf Q hK' _ => ?_
      obtain ⟨e0, e1, -⟩ := hf
      change _ = _ at e0 e1
      simp only [fillAct, List.getD_cons_succ, List.getD_cons_zero, Act.put, List.setIfInBounds_toArray, List.set_cons_succ, List.set_cons_zero, e0, e1] at hK' ⊢
      go_wp2
      exact hK' _ _ (leRel.refl _) rfl
    · refine monoStep_list rfl fun x' W hR hf Q hK' _ => ?_
      obtain ⟨e0, -⟩ := hf
      change _ = _ at e0
      simp only [fillAct, List.getD_cons_succ, List.getD_cons_zero, Act.put, List.setIfInBounds_toArray, List.set_cons_succ, List.set_cons_zero, e0] at hK' ⊢
      go_wp2
      exact hK' _ _ (leRel.refl _) rfl
    · refine monoStep_listG (fun x' W hf => ?_) fun x' W hR hf Q hK' _ => ?_
      · obtain ⟨e0, -⟩ := hf
        change _ = _ at e0
        simp only [fillAct, List.getD_cons_succ, List.getD_cons_zero, Act.put, List.setIfInBounds_toArray, List.set_cons_succ, List.set_cons_zero, e0]
        kernel_rfl
      obtain ⟨e0, -⟩ := hf
      change _ = _ at e0
      simp only [fillAct, List.getD_cons_succ, List.getD_cons_zero, Act.put, List.setIfInBounds_toArray, List.set_cons_succ, List.set_cons_zero, e0] at hK' ⊢
      go_wp2
      exact hK' _ _ (leRel.refl _) rfl
    · refine monoStep_listG (fun x' W hf => ?_) fun x' W hR hf Q hK' _ => ?_
      · obtain ⟨e0, -⟩ := hf
        change _ = _ at e0
        simp only [fillAct, List.getD_cons_succ, List.getD_cons_zero, Act.put, List.setIfInBounds_toArray, List.set_cons_succ, List.set_cons_zero, e0]
        kernel_rfl
      obtain ⟨e0, -⟩ := hf
      change _ = _ at e0
      simp only [fillAct, List.getD_cons_succ, List.getD_cons_zero, Act.put, List.setIfInBounds_toArray, List.set_cons_succ, List.set_cons_zero, e0] at hK' ⊢
      go_wp2
      exact hK' _ _ (leRel.refl _) rfl
    · refine monoStep_listG (fun x' W hf => ?_) fun x' W hR hf Q hK' _ => ?_
      · obtain ⟨e0, e1, e2, -⟩ := hf
        change _ = _ at e0 e1 e2
        simp only [fillAct, List.getD_cons_succ, List.getD_cons_zero, Act.put, List.setIfInBounds_toArray, List.set_cons_succ, List.set_cons_zero, e0, e1, e2]
        kernel_rfl
      obtain ⟨e0, e1, e2, -⟩ := hf
      change _ = _ at e0 e1 e2
      simp only [fillAct, List.getD_cons_succ, List.getD_cons_zero, Act.put, List.setIfInBounds_toArray, List.set_cons_succ, List.set_cons_zero, e0, e1, e2] at hK' ⊢
      go_wp2
      exact hK' _ _ (leRel.refl _) rfl
    · refine monoStep_list rfl fun x' W hR hf Q hK' _ => ?_
      obtain ⟨e0, e1, -⟩ := hf
      change _ = _ at e0 e1
      simp only [fillAct, List.getD_cons_succ, List.getD_cons_zero, Act.put, List.setIfInBounds_toArray, List.set_cons_succ, List.set_cons_zero, e0, e1] at hK' ⊢
      go_wp2
      exact hK' _ _ (leRel.refl _) rfl
    · refine monoStep_list rfl fun x' W hR hf Q hK' _ => ?_
      obtain ⟨e0, -⟩ := hf
      change _ = _ at e0
      simp only [fillAct, List.getD_cons_succ, List.getD_cons_zero, Act.put, List.setIfInBounds_toArray, List.set_cons_succ, List.set_cons_zero, e0] at hK' ⊢
      go_wp2
      exact hK' _ _ (leRel.refl _) rfl
    · refine monoStep_listG (fun x' W hf => ?_) fun x' W hR hf Q hK' _ => ?_
      · obtain ⟨e0, -⟩ := hf
        change _ = _ at e0
        simp only [fillAct, List.getD_cons_succ, List.getD_cons_zero, Act.put, List.setIfInBounds_toArray, List.set_cons_succ, List.set_cons_zero, e0]
        kernel_rfl
      obtain ⟨e0, -⟩ := hf
      change _ = _ at e0
      simp only [fillAct, List.getD_cons_succ, List.getD_cons_zero, Act.put, List.setIfInBounds_toArray, List.set_cons_succ, List.set_cons_zero, e0] at hK' ⊢
      go_wp2
      exact hK' _ _ (leRel.refl _) rfl
    · refine monoStep_listG (fun x' W hf => ?_) fun x' W hR hf Q hK' _ => ?_
      · obtain ⟨e0, -⟩ := hf
        change _ = _ at e0
        simp only [fillAct, List.getD_cons_succ, List.getD_cons_zero, Act.put, List.setIfInBounds_toArray, List.set_cons_succ, List.set_cons_zero, e0]
        kernel_rfl
      obtain ⟨e0, -⟩ := hf
      change _ = _ at e0
      simp only [fillAct, List.getD_cons_succ, List.getD_cons_zero, Act.put, List.setIfInBounds_toArray, List.set_cons_succ, List.set_cons_zero, e0] at hK' ⊢
      go_wp2
      exact hK' _ _ (leRel.refl _) rfl
    · refine monoStep_listG (fun x' W hf => ?_) fun x' W hR hf Q hK' _ => ?_
      · obtain ⟨e0, e1, e2, -⟩ := hf
        change _ = _ at e0 e1 e2
        simp only [fillAct, List.getD_cons_succ, List.getD_cons_zero, Act.put, List.setIfInBounds_toArray, List.set_cons_succ, List.set_cons_zero, e0, e1, e2]
        kernel_rfl
      obtain ⟨e0, e1, e2, -⟩ := hf
      change _ = _ at e0 e1 e2
      simp only [fillAct, List.getD_cons_succ, List.getD_cons_zero, Act.put, List.setIfInBounds_toArray, List.set_cons_succ, List.set_cons_zero, e0, e1, e2] at hK' ⊢
      go_wp2
      exact hK' _ _ (leRel.refl _) rfl
    · refine monoStep_list rfl fun x' W hR hf Q hK' _ => ?_
      obtain ⟨e0, e1, -⟩ := hf
      change _ = _ at e0 e1
      simp only [fillAct, List.getD_cons_succ, List.getD_cons_zero, Act.put, List.setIfInBounds_toArray, List.set_cons_succ, List.set_cons_zero, e0, e1] at hK' ⊢
      go_wp2
      exact hK' _ _ (leRel.refl _) rfl
    · refine monoStep_list rfl fun x' W hR hf Q hK' _ => ?_
      obtain ⟨e0, -⟩ := hf
      change _ = _ at e0
      simp only [fillAct, List.getD_cons_succ, List.getD_cons_zero, Act.put, List.setIfInBounds_toArray, List.set_cons_succ, List.set_cons_zero, e0] at hK' ⊢
      go_wp2
      exact hK' _ _ (leRel.refl _) rfl
    · refine monoStep_listG (fun x' W hf => ?_) fun x' W hR hf Q hK' _ => ?_
      · obtain ⟨e0, -⟩ := hf
        change _ = _ at e0
        simp only [fillAct, List.getD_cons_succ, List.getD_cons_zero, Act.put, List.setIfInBounds_toArray, List.set_cons_succ, List.set_cons_zero, e0]
        kernel_rfl
      obtain ⟨e0, -⟩ := hf
      change _ = _ at e0
      obtain ⟨a0, a1, a2, a3⟩ := cells4 (box_to (show Le W0 W from hR) q19'.out)
      simp only [fillAct, List.getD_cons_succ, List.getD_cons_zero, Act.put, List.setIfInBounds_toArray, List.set_cons_succ, List.set_cons_zero, e0] at hK' ⊢
      go_wp2
      exact hK' _ _ (leRel.refl _) rfl
    · refine monoStep_listG (fun x' W hf => ?_) fun x' W hR hf Q hK' _ => ?_
      · obtain ⟨e0, -⟩ := hf
        change _ = _ at e0
        simp only [fillAct, List.getD_cons_succ, List.getD_cons_zero, Act.put, List.setIfInBounds_toArray, List.set_cons_succ, List.set_cons_zero, e0]
        kernel_rfl
      obtain ⟨e0, -⟩ := hf
      change _ = _ at e0
      obtain ⟨a0, a1, a2, a3⟩ := cells4 (box_to (show Le W0 W from hR) q21'.out)
      simp only [fillAct, List.getD_cons_succ, List.getD_cons_zero, Act.put, List.setIfInBounds_toArray, List.set_cons_succ, List.set_cons_zero, e0] at hK' ⊢
      go_wp2
      exact hK' _ _ (leRel.refl _) rfl
    · refine monoStep_listG (fun x' W hf => ?_) fun x' W hR hf Q hK' _ => ?_
      · obtain ⟨e0, e1, e2, -⟩ := hf
        change _ = _ at e0 e1 e2
        simp only [fillAct, List.getD_cons_succ, List.getD_cons_zero, Act.put, List.setIfInBounds_toArray, List.set_cons_succ, List.set_cons_zero, e0, e1, e2]
        kernel_rfl
      obtain ⟨e0, e1, e2, -⟩ := hf
      change _ = _ at e0 e1 e2
      simp only [fillAct, List.getD_cons_succ, List.getD_cons_zero, Act.put, List.setIfInBounds_toArray, List.set_cons_succ, List.set_cons_zero, e0, e1, e2] at hK' ⊢
      have hcall := pf_n_SameFrac _ _ (resF r19) (resF r19) _ _ W (z19'.out.le hR) (z21'.out.le hR)
      rw [sameF_self] at hcall
      have hcall' := Lib.hid hcall
      clear hcall
      go_wp2_with (fail)
      go_at_call 15
      refine hcall'.out.mono ?_
      rintro e w' ⟨rfl, y1⟩
      go_wp2
      exact hK' _ _ y1 rfl
    · refine monoStep_list rfl fun x' W hR hf Q hK' _ => ?_
      obtain ⟨e0, e1, -⟩ := hf
      change _ = _ at e0 e1
      simp only [fillAct, List.getD_cons_succ, List.getD_cons_zero, Act.put, List.setIfInBounds_toArray, List.set_cons_succ, List.set_cons_zero, e0, e1] at hK' ⊢
      go_wp2
      exact hK' _ _ (leRel.refl _) rfl
    · refine monoStep_list rfl fun x' W hR hf Q hK' _ => ?_
      obtain ⟨e0, -⟩ := hf
      change _ = _ at e0
      simp only [fillAct, List.getD_cons_succ, List.getD_cons_zero, Act.put, List.setIfInBounds_toArray, List.set_cons_succ, List.set_cons_zero, e0] at hK' ⊢
      go_wp2
      exact hK' _ _ (leRel.refl _) rfl
    · refine monoStep_listG (fun x' W hf => ?_) fun x' W hR hf Q hK' _ => ?_
      · obtain ⟨e0, -⟩ := hf
        change _ = _ at e0
        simp only [fillAct, List.getD_cons_succ, List.getD_cons_zero, Act.put, List.setIfInBounds_toArray, List.set_cons_succ, List.set_cons_zero, e0]
        kernel_rfl
      obtain ⟨e0, -⟩ := hf
      change _ = _ at e0
      simp only [fillAct, List.getD_cons_succ, List.getD_cons_zero, Act.put, List.setIfInBounds_toArray, List.set_cons_succ, List.set_cons_zero, e0] at hK' ⊢
      go_wp2
      exact hK' _ _ (leRel.refl _) rfl
    · refine monoStep_listG (fun x' W hf => ?_) fun x' W hR hf Q hK' _ => ?_
      · obtain ⟨e0, -⟩ := hf
        change _ = _ at e0
        simp only [fillAct, List.getD_cons_succ, List.getD_cons_zero, Act.put, List.setIfInBounds_toArray, List.set_cons_succ, List.set_cons_zero, e0]
        kernel_rfl
      obtain ⟨e0, -⟩ := hf
      change _ = _ at e0
      simp only [fillAct, List.getD_cons_succ, List.getD_cons_zero, Act.put, List.setIfInBounds_toArray, List.set_cons_succ, List.set_cons_zero, e0] at hK' ⊢
      go_wp2
      exact hK' _ _ (leRel.refl _) rfl
    · refine monoStep_listG (fun x' W hf => ?_) fun x' W hR hf Q hK' _ => ?_
      · obtain ⟨e0, e1, e2, -⟩ := hf
        change _ = _ at e0 e1 e2
        simp only [fillAct, List.getD_cons_succ, List.getD_cons_zero, Act.put, List.setIfInBounds_toArray, List.set_cons_succ, List.set_cons_zero, e0, e1, e2]
        kernel_rfl
      obtain ⟨e0, e1, e2, -⟩ := hf
      change _ = _ at e0 e1 e2
      simp only [fillAct, List.getD_cons_succ, List.getD_cons_zero, Act.put, List.setIfInBounds_toArray, List.set_cons_succ, List.set_cons_zero, e0, e1, e2] at hK' ⊢
      go_wp2
      exact hK' _ _ (leRel.refl _) rfl
    · refine monoStep_list rfl fun x' W hR hf Q hK' _ => ?_
      obtain ⟨e0, e1, -⟩ := hf
      change _ = _ at e0 e1
      simp only [fillAct, List.getD_cons_succ, List.getD_cons_zero, Act.put, List.setIfInBounds_toArray, List.set_cons_succ, List.set_cons_zero, e0, e1] at hK' ⊢
      go_wp2
      exact hK' _ _ (leRel.refl _) rfl
  · intro x' W hR hf Q' hQ1 _
    have e41 := hf 41 (by decide)
    change _ = _ at e41
    simp only [List.drop_succ_cons, List.drop_zero]
    rw [show List.range 42 = [0, 1, 2, 3, 4, 5, 6, 7, 8, 9, 10, 11, 12, 13, 14, 15, 16, 17, 18, 19, 20, 21, 22, 23, 24, 25, 26, 27, 28, 29, 30, 31, 32, 33, 34, 35, 36, 37, 38, 39, 40, 41] from rfl]
    simp only [fillAct, List.getD_cons_succ, List.getD_cons_zero, Act.put, List.setIfInBounds_toArray, List.set_cons_succ, List.set_cons_zero, e41]
    clear hf
    have hleW := Lib.hid (hle'.out.trans (show Le W0 W from hR))
    clear hR
    go_wp2
    refine hQ1 _ _ (hK _ _ ?_)
    conv => arg 2; whnf
    go_upto_region 11 with (fail)
    exact next'.out _ _ (frame_mkN _ _ (by kernel_rfl)) hleW.out _ (by assumption)
end Go.Proofs.Ytemdemfknnkcaaa
