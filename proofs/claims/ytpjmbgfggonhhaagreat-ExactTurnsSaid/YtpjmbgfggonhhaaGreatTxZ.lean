/- law 1, ExactTurns: region 9. law 1, ExactTurns: regions 0 to 2, the whole. -/
import Derived.Test.YtpjmbgfggonhhaaGreatTxS
import Derived.Test.YtpjmbgfggonhhaaGreatTOpA
import Derived.Test.YtpjmbgfggonhhaaGreatTOpB
import Derived.Test.YtpjmbgfggonhhaaGreatTRB
import Derived.Test.YtpjmbgfggonhhaaGreatTRA
namespace Go.Proofs.YtpjmbgfggonhhaaGreat
open Go.RowKit Go.Shelf
set_option linter.unusedVariables false
set_option linter.unusedSimpArgs false
def MPred.isA (x : FracA × FracA) : MPred := ⟨fun v w => IsTurnA w v x, fun _ _ _ hb h => h.le hb⟩
set_option maxRecDepth 1000000 in
set_option maxHeartbeats 8000000 in
theorem tx_from9 (w : World) (x y : FracA × FracA) (n p q : Int) (rA rM rD : Except Int G2) (k5 k6 j11 j13 j15 j17 j19 j21 : Nat) (V W0 : World) (h5 : ABox V k5 x) (hle : Le V W0) (h11 : RBT V W0 j11 rA) (h13 : RBT V W0 j13 rA) (h15 : RBT V W0 j15 rM) (h17 : RBT V W0 j17 rM) (h19 : RBT V W0 j19 rD) (h21 : RBT V W0 j21 rD)
    (next : ∀ (W : World) (t : Array Value), (∃ u : Nat → Value, t = #[(u 0), (u 1), .int .i64 n, .int .i64 p, .int .i64 q, .pointer (some ⟨k5, 0, none⟩), .pointer (some ⟨k6, 0, none⟩), (u 7), (u 8), (u 9), (u 10), (u 11), (u 12), (u 13), (u 14), (u 15), (u 16), (u 17), (u 18), (u 19), (u 20), (u 21), (u 22), .bool true, (u 24), (u 25), (u 26), (u 27), (u 28), (u 29), (u 30), (u 31), (u 32), (u 33), (u 34), (u 35), (u 36), (u 37), (u 38), (u 39), (u 40), (u 41), (u 42), (u 43), (u 44), (u 45), (u 46), (u 47), (u 48), (u 49), (u 50), (u 51), (u 52), (u 53), (u 54), (u 55), (u 56), (u 57), (u 58), (u 59), (u 60), (u 61), (u 62), (u 63), (u 64), (u 65), (u 66), (u 67), (u 68), (u 69), (u 70), (u 71), (u 72), (u 73), (u 74), (u 75), (u 76), (u 77), (u 78), (u 79), (u 80), (u 81), (u 82), (u 83), (u 84), (u 85), (u 86), (u 87), (u 88), (u 89), (u 90), (u 91), (u 92), (u 93), (u 94), (u 95), (u 96), (u 97), (u 98), (u 99), (u 100), (u 101), (u 102), (u 103), (u 104), (u 105), (u 106), (u 107), (u 108), (u 109), (u 110), (u 111), (u 112), (u 113), (u 114), (u 115), (u 116), (u 117), (u 118), (u 119), (u 120), (u 121), (u 122), (u 123), (u 124), (u 125), (u 126), (u 127), (u 128), (u 129), (u 130), (u 131), (u 132), (u 133), (u 134), (u 135), (u 136), (u 137), (u 138), (u 139), (u 140), (u 141), (u 142), (u 143), (u 144), (u 145), (u 146), (u 147), (u 148), (u 149), (u 150), (u 151), (u 152), (u 153), (u 154), (u 155), (u 156), (u 157), (u 158), (u 159), (u 160), (u 161), (u 162), (u 163), (u 164), (u 165), (u 166), (u 167), (u 168), (u 169), (u 170), (u 171), (u 172), (u 173), (u 174), (u 175)]) → Le V W → TxFrom 10 w t W)
    (t : Array Value) (ht : ∃ u : Nat → Value, t = #[(u 0), (u 1), .int .i64 n, .int .i64 p, .int .i64 q, .pointer (some ⟨k5, 0, none⟩), .pointer (some ⟨k6, 0, none⟩), (u 7), (u 8), (u 9), (u 10), .pointer (some ⟨j11, 0, none⟩), .int .i64 (codeT rA), .pointer (some ⟨j13, 0, none⟩), .int .i64 (codeT rA), .pointer (some ⟨j15, 0, none⟩), .int .i64 (codeT rM), .pointer (some ⟨j17, 0, none⟩), .int .i64 (codeT rM), .pointer (some ⟨j19, 0, none⟩), .int .i64 (codeT rD), .pointer (some ⟨j21, 0, none⟩), .int .i64 (codeT rD), (u 23), (u 24), (u 25), (u 26), (u 27), (u 28), (u 29), (u 30), (u 31), (u 32), (u 33), (u 34), (u 35), (u 36), (u 37), (u 38), (u 39), (u 40), (u 41), (u 42), (u 43), (u 44), (u 45), (u 46), (u 47), (u 48), (u 49), (u 50), (u 51), (u 52), (u 53), (u 54), (u 55), (u 56), (u 57), (u 58), (u 59), (u 60), (u 61), (u 62), (u 63), (u 64), (u 65), (u 66), (u 67), (u 68), (u 69), (u 70), (u 71), (u 72), (u 73), (u 74), (u 75), (u 76), (u 77), (u 78), (u 79), (u 80), (u 81), (u 82), (u 83), (u 84), (u 85), (u 86), (u 87), (u 88), (u 89), (u 90), (u 91), (u 92), (u 93), (u 94), (u 95), (u 96), (u 97), (u 98), (u 99), (u 100), (u 101), (u 102), (u 103), (u 104), (u 105), (u 106), (u 107), (u 108), (u 109), (u 110), (u 111), (u 112), (u 113), (u 114), (u 115), (u 116), (u 117), (u 118), (u 119), (u 120), (u 121), (u 122), (u 123), (u 124), (u 125), (u 126), (u 127), (u 128), (u 129), (u 130), (u 131), (u 132), (u 133), (u 134), (u 135), (u 136), (u 137), (u 138), (u 139), (u 140), (u 141), (u 142), (u 143), (u 144), (u 145), (u 146), (u 147), (u 148), (u 149), (u 150), (u 151), (u 152), (u 153), (u 154), (u 155), (u 156), (u 157), (u 158), (u 159), (u 160), (u 161), (u 162), (u 163), (u 164), (u 165), (u 166), (u 167), (u 168), (u 169), (u 170), (u 171), (u 172), (u 173), (u 174), (u 175)]) : TxFrom 9 w t W0 := by
  intro K hK
  obtain ⟨u, rfl⟩ := ht
  obtain ⟨kc, ekc⟩ : ∃ k, okE (tval x).isSome = k := ⟨_, rfl⟩
  obtain ⟨x1A, x1c, x1B, x1d, x2A, x2c, x2B, x2d, g5, i51, i52⟩ := h5
  have hxa := (IsTurnA.mk i51 i52).le hle
  have g5b := box_later hle g5
  conv => arg 2; whnf
  have hle' := Lib.hid hle
  have next' := Lib.hid next
  have g5' := Lib.hid g5
  have g5b' := Lib.hid g5b
  have i51' := Lib.hid i51
  have i52' := Lib.hid i52
  have hxa' := Lib.hid hxa
  have ekc' := Lib.hid ekc
  have h11' := Lib.hid h11
  have h13' := Lib.hid h13
  have h15' := Lib.hid h15
  have h17' := Lib.hid h17
  have h19' := Lib.hid h19
  have h21' := Lib.hid h21
  clear h21 h19 h17 h15 h13 h11 ekc hxa i52 i51 g5b g5 next hle
  refine wp_region_monoL (R := leRel) 35 [some 72, some 73, some 74, some 75, some 76, some 77, some 78, some 79, some 80, some 81, some 82, some 83, some 84, some 85, some 86, some 87, some 88, some 89, some 90, some 91, some 92, some 93, some 94, some 95, some 96, some 97, some 98, some 99, some 100, some 101, some 102, some 103, some 104, some 105, some 106, some 23] [[], [0], [], [2], [1, 3], [4], [5], [5], [5, 6, 7], [5, 8], [9], [10], [10], [10, 11, 12], [10, 13], [14], [15], [15], [15, 16, 17], [15, 18], [19], [20], [20], [20, 21, 22], [20, 23], [24], [25], [25], [25, 26, 27], [25, 28], [29], [30], [30], [30, 31, 32], [30, 33], [34]]
    [.eq (.agg #[.bool x.1.sn, .slice x1A x.1.gn.length x1c, .bool x.1.sd, .slice x1B x.1.gd.length x1d, .bool x.2.sn, .slice x2A x.2.gn.length x2c, .bool x.2.sd, .slice x2B x.2.gd.length x2d]), .eq (.int .i64 kc), .eq (.agg #[.bool x.1.sn, .slice x1A x.1.gn.length x1c, .bool x.1.sd, .slice x1B x.1.gd.length x1d, .bool x.2.sn, .slice x2A x.2.gn.length x2c, .bool x.2.sd, .slice x2B x.2.gd.length x2d]), .eq (.int .i64 kc), .eq (.bool true), .eq (.bool true), MPred.isA (resTA rA), MPred.isA (resTA rA), .eq (.bool true), .eq (.bool true), .eq (.bool true), .eq (.int .i64 (codeT rA)), .eq (.int .i64 (codeT rA)), .eq (.bool true), .eq (.bool true), .eq (.bool true), MPred.isA (resTA rM), MPred.isA (resTA rM), .eq (.bool true), .eq (.bool true), .eq (.bool true), .eq (.int .i64 (codeT rM)), .eq (.int .i64 (codeT rM)), .eq (.bool true), .eq (.bool true), .eq (.bool true), MPred.isA (resTA rD), MPred.isA (resTA rD), .eq (.bool true), .eq (.bool true), .eq (.bool true), .eq (.int .i64 (codeT rD)), .eq (.int .i64 (codeT rD)), .eq (.bool true), .eq (.bool true)] (fun _ _ => False) (by kernel_rfl) (by kernel_rfl) (by kernel_rfl) (by kernel_rfl) ?_ (fun _ _ _ _ _ h => h.elim) ?_
  · simp only [List.take_succ_cons, List.take_zero]
    refine monoSteps_cons ?_ (monoSteps_cons ?_ (monoSteps_cons ?_ (monoSteps_cons ?_ (monoSteps_cons ?_ (monoSteps_cons ?_ (monoSteps_cons ?_ (monoSteps_cons ?_ (monoSteps_cons ?_ (monoSteps_cons ?_ (monoSteps_cons ?_ (monoSteps_cons ?_ (monoSteps_cons ?_ (monoSteps_cons ?_ (monoSteps_cons ?_ (monoSteps_cons ?_ (monoSteps_cons ?_ (monoSteps_cons ?_ (monoSteps_cons ?_ (monoSteps_cons ?_ (monoSteps_cons ?_ (monoSteps_cons ?_ (monoSteps_cons ?_ (monoSteps_cons ?_ (monoSteps_cons ?_ (monoSteps_cons ?_ (monoSteps_cons ?_ (monoSteps_cons ?_ (monoSteps_cons ?_ (monoSteps_cons ?_ (monoSteps_cons ?_ (monoSteps_cons ?_ (monoSteps_cons ?_ (monoSteps_cons ?_ (monoSteps_cons ?_ (monoSteps_nil)))))))))))))))))))))))))))))))))))
    · refine monoStep_list rfl fun x' W hR hf Q hK' _ => ?_
      obtain ⟨a0, a1, a2, a3, a4, a5, a6, a7⟩ := cells8 (box_later (show Le W0 W from hR) g5b'.out)
      simp only [fillAct, List.getD_cons_succ, List.getD_cons_zero, Act.put, List.setIfInBounds_toArray, List.set_cons_succ, List.set_cons_zero] at hK' ⊢
      go_wp2
      exact hK' _ _ (leRel.refl _) rfl
    · refine monoStep_list rfl fun x' W hR hf Q hK' _ => ?_
      obtain ⟨e0, -⟩ := hf
      change _ = _ at e0
      simp only [fillAct, List.getD_cons_succ, List.getD_cons_zero, Act.put, List.setIfInBounds_toArray, List.set_cons_succ, List.set_cons_zero, e0] at hK' ⊢
      have hcall := pf_CheckTurn x _ W (hxa'.out.le hR)
      rw [ekc'.out] at hcall
      have hcall' := Lib.hid hcall
      clear hcall
      go_wp2_with (fail)
      go_at_call 11
      refine hcall'.out.mono ?_
      rintro e w' ⟨rfl, y1⟩
      go_wp2
      exact hK' _ _ y1 rfl
    · refine monoStep_list rfl fun x' W hR hf Q hK' _ => ?_
      obtain ⟨a0, a1, a2, a3, a4, a5, a6, a7⟩ := cells8 (box_later (show Le W0 W from hR) g5b'.out)
      simp only [fillAct, List.getD_cons_succ, List.getD_cons_zero, Act.put, List.setIfInBounds_toArray, List.set_cons_succ, List.set_cons_zero] at hK' ⊢
      go_wp2
      exact hK' _ _ (leRel.refl _) rfl
    · refine monoStep_list rfl fun x' W hR hf Q hK' _ => ?_
      obtain ⟨e0, -⟩ := hf
      change _ = _ at e0
      simp only [fillAct, List.getD_cons_succ, List.getD_cons_zero, Act.put, List.setIfInBounds_toArray, List.set_cons_succ, List.set_cons_zero, e0] at hK' ⊢
      have hcall := pf_n_CheckTurn x _ W (hxa'.out.le hR)
      rw [ekc'.out] at hcall
      have hcall' := Lib.hid hcall
      clear hcall
      go_wp2_with (fail)
      go_at_call 12
      refine hcall'.out.mono ?_
      rintro e w' ⟨rfl, y1⟩
      go_wp2
      exact hK' _ _ y1 rfl
    · refine monoStep_list rfl fun x' W hR hf Q hK' _ => ?_
      obtain ⟨e0, e1, -⟩ := hf
      change _ = _ at e0 e1
      simp only [fillAct, List.getD_cons_succ, List.getD_cons_zero, Act.put, List.setIfInBounds_toArray, List.set_cons_succ, List.set_cons_zero, e0, e1] at hK' ⊢
      go_wp2
      exact hK' _ _ (leRel.refl _) rfl
    · refine monoStep_list rfl fun x' W hR hf Q hK' _ => ?_
      obtain ⟨e0, -⟩ := hf
      change _ = _ at e0
      simp only [fillAct, List.getD_cons_succ, List.getD_cons_zero, Act.put, List.setIfInBounds_toArray, List.set_cons_succ, List.set_cons_zero, e0] at hK' ⊢
      go_wp2
      exact hK' _ _ (leRel.refl _) rfl
    · refine monoStep_listG (fun x' W hf => ?_) fun x' W hR hf Q hK' _ => ?_
      · obtain ⟨e0, -⟩ := hf
        change _ = _ at e0
        simp only [fillAct, List.getD_cons_succ, List.getD_cons_zero, Act.put, List.setIfInBounds_toArray, List.set_cons_succ, List.set_cons_zero, e0]
        kernel_rfl
      obtain ⟨e0, -⟩ := hf
      change _ = _ at e0
      obtain ⟨-, bs1, bA1, bn1, bc1, bt1, bB1, bm1, bd1, bs2, bA2, bn2, bc2, bt2, bB2, bm2, bd2, qq, pp⟩ := h11'.out.le (show Le W0 W from hR)
      have zz := pp.isA
      obtain ⟨a0, a1, a2, a3, a4, a5, a6, a7⟩ := cells8 qq
      have qq' := Lib.hid qq
      have pp' := Lib.hid pp
      have zz' := Lib.hid zz
      clear zz pp qq
      simp only [fillAct, List.getD_cons_succ, List.getD_cons_zero, Act.put, List.setIfInBounds_toArray, List.set_cons_succ, List.set_cons_zero, e0] at hK' ⊢
      go_wp2
      exact hK' _ _ (leRel.refl _) zz'.out
    · refine monoStep_listG (fun x' W hf => ?_) fun x' W hR hf Q hK' _ => ?_
      · obtain ⟨e0, -⟩ := hf
        change _ = _ at e0
        simp only [fillAct, List.getD_cons_succ, List.getD_cons_zero, Act.put, List.setIfInBounds_toArray, List.set_cons_succ, List.set_cons_zero, e0]
        kernel_rfl
      obtain ⟨e0, -⟩ := hf
      change _ = _ at e0
      obtain ⟨-, bs1, bA1, bn1, bc1, bt1, bB1, bm1, bd1, bs2, bA2, bn2, bc2, bt2, bB2, bm2, bd2, qq, pp⟩ := h13'.out.le (show Le W0 W from hR)
      have zz := pp.isA
      obtain ⟨a0, a1, a2, a3, a4, a5, a6, a7⟩ := cells8 qq
      have qq' := Lib.hid qq
      have pp' := Lib.hid pp
      have zz' := Lib.hid zz
      clear zz pp qq
      simp only [fillAct, List.getD_cons_succ, List.getD_cons_zero, Act.put, List.setIfInBounds_toArray, List.set_cons_succ, List.set_cons_zero, e0] at hK' ⊢
      go_wp2
      exact hK' _ _ (leRel.refl _) zz'.out
    · refine monoStep_listG (fun x' W hf => ?_) fun x' W hR hf Q hK' _ => ?_
      · obtain ⟨e0, e1, e2, -⟩ := hf
        change _ = _ at e0
        simp only [fillAct, List.getD_cons_succ, List.getD_cons_zero, Act.put, List.setIfInBounds_toArray, List.set_cons_succ, List.set_cons_zero, e0]
        kernel_rfl
      obtain ⟨e0, e1, e2, -⟩ := hf
      change _ = _ at e0
      replace e1 : IsTurnA W (x' 6) _ := e1
      replace e2 : IsTurnA W (x' 7) _ := e2
      simp only [fillAct, List.getD_cons_succ, List.getD_cons_zero, Act.put, List.setIfInBounds_toArray, List.set_cons_succ, List.set_cons_zero, e0] at hK' ⊢
      have hcall := pf_n_SameTurn (resTA rA) (resTA rA) _ _ W e1 e2
      rw [sameT_self] at hcall
      have hcall' := Lib.hid hcall
      clear hcall
      go_wp2_with (fail)
      go_at_call 13
      refine hcall'.out.mono ?_
      rintro e w' ⟨rfl, y1⟩
      go_wp2
      exact hK' _ _ y1 rfl
    · refine monoStep_list rfl fun x' W hR hf Q hK' _ => ?_
      obtain ⟨e0, e1, -⟩ := hf
      change _ = _ at e0 e1
      simp only [fillAct, List.getD_cons_succ, List.getD_cons_zero, Act.put, List.setIfInBounds_toArray, List.set_cons_succ, List.set_cons_zero, e0, e1] at hK' ⊢
      go_wp2
      exact hK' _ _ (leRel.refl _) rfl
    · refine monoStep_list rfl fun x' W hR hf Q hK' _ => ?_
      obtain ⟨e0, -⟩ := hf
      change _ = _ at e0
      simp only [fillAct, List.getD_cons_succ, List.getD_cons_zero, Act.put, List.setIfInBounds_toArray, List.set_cons_succ, List.set_cons_zero, e0] at hK' ⊢
      go_wp2
      exact hK' _ _ (leRel.refl _) rfl
    · refine monoStep_listG (fun x' W hf => ?_) fun x' W hR hf Q hK' _ => ?_
      · obtain ⟨e0, -⟩ := hf
        change _ = _ at e0
        simp only [fillAct, List.getD_cons_succ, List.getD_cons_zero, Act.put, List.setIfInBounds_toArray, List.set_cons_succ, List.set_cons_zero, e0]
        kernel_rfl
      obtain ⟨e0, -⟩ := hf
      change _ = _ at e0
      simp only [fillAct, List.getD_cons_succ, List.getD_cons_zero, Act.put, List.setIfInBounds_toArray, List.set_cons_succ, List.set_cons_zero, e0] at hK' ⊢
      go_wp2
      exact hK' _ _ (leRel.refl _) rfl
    · refine monoStep_listG (fun x' W hf => ?_) fun x' W hR hf Q hK' _ => ?_
      · obtain ⟨e0, -⟩ := hf
        change _ = _ at e0
        simp only [fillAct, List.getD_cons_succ, List.getD_cons_zero, Act.put, List.setIfInBounds_toArray, List.set_cons_succ, List.set_cons_zero, e0]
        kernel_rfl
      obtain ⟨e0, -⟩ := hf
      change _ = _ at e0
      simp only [fillAct, List.getD_cons_succ, List.getD_cons_zero, Act.put, List.setIfInBounds_toArray, List.set_cons_succ, List.set_cons_zero, e0] at hK' ⊢
      go_wp2
      exact hK' _ _ (leRel.refl _) rfl
    · refine monoStep_listG (fun x' W hf => ?_) fun x' W hR hf Q hK' _ => ?_
      · obtain ⟨e0, e1, e2, -⟩ := hf
        change _ = _ at e0 e1 e2
        simp only [fillAct, List.getD_cons_succ, List.getD_cons_zero, Act.put, List.setIfInBounds_toArray, List.set_cons_succ, List.set_cons_zero, e0, e1, e2]
        kernel_rfl
      obtain ⟨e0, e1, e2, -⟩ := hf
      change _ = _ at e0 e1 e2
      simp only [fillAct, List.getD_cons_succ, List.getD_cons_zero, Act.put, List.setIfInBounds_toArray, List.set_cons_succ, List.set_cons_zero, e0, e1, e2] at hK' ⊢
      go_wp2
      exact hK' _ _ (leRel.refl _) rfl
    · refine monoStep_list rfl fun x' W hR hf Q hK' _ => ?_
      obtain ⟨e0, e1, -⟩ := hf
      change _ = _ at e0 e1
      simp only [fillAct, List.getD_cons_succ, List.getD_cons_zero, Act.put, List.setIfInBounds_toArray, List.set_cons_succ, List.set_cons_zero, e0, e1] at hK' ⊢
      go_wp2
      exact hK' _ _ (leRel.refl _) rfl
    · refine monoStep_list rfl fun x' W hR hf Q hK' _ => ?_
      obtain ⟨e0, -⟩ := hf
      change _ = _ at e0
      simp only [fillAct, List.getD_cons_succ, List.getD_cons_zero, Act.put, List.setIfInBounds_toArray, List.set_cons_succ, List.set_cons_zero, e0] at hK' ⊢
      go_wp2
      exact hK' _ _ (leRel.refl _) rfl
    · refine monoStep_listG (fun x' W hf => ?_) fun x' W hR hf Q hK' _ => ?_
      · obtain ⟨e0, -⟩ := hf
        change _ = _ at e0
        simp only [fillAct, List.getD_cons_succ, List.getD_cons_zero, Act.put, List.setIfInBounds_toArray, List.set_cons_succ, List.set_cons_zero, e0]
        kernel_rfl
      obtain ⟨e0, -⟩ := hf
      change _ = _ at e0
      obtain ⟨-, bs1, bA1, bn1, bc1, bt1, bB1, bm1, bd1, bs2, bA2, bn2, bc2, bt2, bB2, bm2, bd2, qq, pp⟩ := h15'.out.le (show Le W0 W from hR)
      have zz := pp.isA
      obtain ⟨a0, a1, a2, a3, a4, a5, a6, a7⟩ := cells8 qq
      have qq' := Lib.hid qq
      have pp' := Lib.hid pp
      have zz' := Lib.hid zz
      clear zz pp qq
      simp only [fillAct, List.getD_cons_succ, List.getD_cons_zero, Act.put, List.setIfInBounds_toArray, List.set_cons_succ, List.set_cons_zero, e0] at hK' ⊢
      go_wp2
      exact hK' _ _ (leRel.refl _) zz'.out
    · refine monoStep_listG (fun x' W hf => ?_) fun x' W hR hf Q hK' _ => ?_
      · obtain ⟨e0, -⟩ := hf
        change _ = _ at e0
        simp only [fillAct, List.getD_cons_succ, List.getD_cons_zero, Act.put, List.setIfInBounds_toArray, List.set_cons_succ, List.set_cons_zero, e0]
        kernel_rfl
      obtain ⟨e0, -⟩ := hf
      change _ = _ at e0
      obtain ⟨-, bs1, bA1, bn1, bc1, bt1, bB1, bm1, bd1, bs2, bA2, bn2, bc2, bt2, bB2, bm2, bd2, qq, pp⟩ := h17'.out.le (show Le W0 W from hR)
      have zz := pp.isA
      obtain ⟨a0, a1, a2, a3, a4, a5, a6, a7⟩ := cells8 qq
      have qq' := Lib.hid qq
      have pp' := Lib.hid pp
      have zz' := Lib.hid zz
      clear zz pp qq
      simp only [fillAct, List.getD_cons_succ, List.getD_cons_zero, Act.put, List.setIfInBounds_toArray, List.set_cons_succ, List.set_cons_zero, e0] at hK' ⊢
      go_wp2
      exact hK' _ _ (leRel.refl _) zz'.out
    · refine monoStep_listG (fun x' W hf => ?_) fun x' W hR hf Q hK' _ => ?_
      · obtain ⟨e0, e1, e2, -⟩ := hf
        change _ = _ at e0
        simp only [fillAct, List.getD_cons_succ, List.getD_cons_zero, Act.put, List.setIfInBounds_toArray, List.set_cons_succ, List.set_cons_zero, e0]
        kernel_rfl
      obtain ⟨e0, e1, e2, -⟩ := hf
      change _ = _ at e0
      replace e1 : IsTurnA W (x' 16) _ := e1
      replace e2 : IsTurnA W (x' 17) _ := e2
      simp only [fillAct, List.getD_cons_succ, List.getD_cons_zero, Act.put, List.setIfInBounds_toArray, List.set_cons_succ, List.set_cons_zero, e0] at hK' ⊢
      have hcall := pf_n_SameTurn (resTA rM) (resTA rM) _ _ W e1 e2
      rw [sameT_self] at hcall
      have hcall' := Lib.hid hcall
      clear hcall
      go_wp2_with (fail)
      go_at_call 13
      refine hcall'.out.mono ?_
      rintro e w' ⟨rfl, y1⟩
      go_wp2
      exact hK' _ _ y1 rfl
    · refine monoStep_list rfl fun x' W hR hf Q hK' _ => ?_
      obtain ⟨e0, e1, -⟩ := hf
      change _ = _ at e0 e1
      simp only [fillAct, List.getD_cons_succ, List.getD_cons_zero, Act.put, List.setIfInBounds_toArray, List.set_cons_succ, List.set_cons_zero, e0, e1] at hK' ⊢
      go_wp2
      exact hK' _ _ (leRel.refl _) rfl
    · refine monoStep_list rfl fun x' W hR hf Q hK' _ => ?_
      obtain ⟨e0, -⟩ := hf
      change _ = _ at e0
      simp only [fillAct, List.getD_cons_succ, List.getD_cons_zero, Act.put, List.setIfInBounds_toArray, List.set_cons_succ, List.set_cons_zero, e0] at hK' ⊢
      go_wp2
      exact hK' _ _ (leRel.refl _) rfl
    · refine monoStep_listG (fun x' W hf => ?_) fun x' W hR hf Q hK' _ => ?_
      · obtain ⟨e0, -⟩ := hf
        change _ = _ at e0
        simp only [fillAct, List.getD_cons_succ, List.getD_cons_zero, Act.put, List.setIfInBounds_toArray, List.set_cons_succ, List.set_cons_zero, e0]
        kernel_rfl
      obtain ⟨e0, -⟩ := hf
      change _ = _ at e0
      simp only [fillAct, List.getD_cons_succ, List.getD_cons_zero, Act.put, List.setIfInBounds_toArray, List.set_cons_succ, List.set_cons_zero, e0] at hK' ⊢
      go_wp2
      exact hK' _ _ (leRel.refl _) rfl
    · refine monoStep_listG (fun x' W hf => ?_) fun x' W hR hf Q hK' _ => ?_
      · obtain ⟨e0, -⟩ := hf
        change _ = _ at e0
        simp only [fillAct, List.getD_cons_succ, List.getD_cons_zero, Act.put, List.setIfInBounds_toArray, List.set_cons_succ, List.set_cons_zero, e0]
        kernel_rfl
      obtain ⟨e0, -⟩ := hf
      change _ = _ at e0
      simp only [fillAct, List.getD_cons_succ, List.getD_cons_zero, Act.put, List.setIfInBounds_toArray, List.set_cons_succ, List.set_cons_zero, e0] at hK' ⊢
      go_wp2
      exact hK' _ _ (leRel.refl _) rfl
    · refine monoStep_listG (fun x' W hf => ?_) fun x' W hR hf Q hK' _ => ?_
      · obtain ⟨e0, e1, e2, -⟩ := hf
        change _ = _ at e0 e1 e2
        simp only [fillAct, List.getD_cons_succ, List.getD_cons_zero, Act.put, List.setIfInBounds_toArray, List.set_cons_succ, List.set_cons_zero, e0, e1, e2]
        kernel_rfl
      obtain ⟨e0, e1, e2, -⟩ := hf
      change _ = _ at e0 e1 e2
      simp only [fillAct, List.getD_cons_succ, List.getD_cons_zero, Act.put, List.setIfInBounds_toArray, List.set_cons_succ, List.set_cons_zero, e0, e1, e2] at hK' ⊢
      go_wp2
      exact hK' _ _ (leRel.refl _) rfl
    · refine monoStep_list rfl fun x' W hR hf Q hK' _ => ?_
      obtain ⟨e0, e1, -⟩ := hf
      change _ = _ at e0 e1
      simp only [fillAct, List.getD_cons_succ, List.getD_cons_zero, Act.put, List.setIfInBounds_toArray, List.set_cons_succ, List.set_cons_zero, e0, e1] at hK' ⊢
      go_wp2
      exact hK' _ _ (leRel.refl _) rfl
    · refine monoStep_list rfl fun x' W hR hf Q hK' _ => ?_
      obtain ⟨e0, -⟩ := hf
      change _ = _ at e0
      simp only [fillAct, List.getD_cons_succ, List.getD_cons_zero, Act.put, List.setIfInBounds_toArray, List.set_cons_succ, List.set_cons_zero, e0] at hK' ⊢
      go_wp2
      exact hK' _ _ (leRel.refl _) rfl
    · refine monoStep_listG (fun x' W hf => ?_) fun x' W hR hf Q hK' _ => ?_
      · obtain ⟨e0, -⟩ := hf
        change _ = _ at e0
        simp only [fillAct, List.getD_cons_succ, List.getD_cons_zero, Act.put, List.setIfInBounds_toArray, List.set_cons_succ, List.set_cons_zero, e0]
        kernel_rfl
      obtain ⟨e0, -⟩ := hf
      change _ = _ at e0
      obtain ⟨-, bs1, bA1, bn1, bc1, bt1, bB1, bm1, bd1, bs2, bA2, bn2, bc2, bt2, bB2, bm2, bd2, qq, pp⟩ := h19'.out.le (show Le W0 W from hR)
      have zz := pp.isA
      obtain ⟨a0, a1, a2, a3, a4, a5, a6, a7⟩ := cells8 qq
      have qq' := Lib.hid qq
      have pp' := Lib.hid pp
      have zz' := Lib.hid zz
      clear zz pp qq
      simp only [fillAct, List.getD_cons_succ, List.getD_cons_zero, Act.put, List.setIfInBounds_toArray, List.set_cons_succ, List.set_cons_zero, e0] at hK' ⊢
      go_wp2
      exact hK' _ _ (leRel.refl _) zz'.out
    · refine monoStep_listG (fun x' W hf => ?_) fun x' W hR hf Q hK' _ => ?_
      · obtain ⟨e0, -⟩ := hf
        change _ = _ at e0
        simp only [fillAct, List.getD_cons_succ, List.getD_cons_zero, Act.put, List.setIfInBounds_toArray, List.set_cons_succ, List.set_cons_zero, e0]
        kernel_rfl
      obtain ⟨e0, -⟩ := hf
      change _ = _ at e0
      obtain ⟨-, bs1, bA1, bn1, bc1, bt1, bB1, bm1, bd1, bs2, bA2, bn2, bc2, bt2, bB2, bm2, bd2, qq, pp⟩ := h21'.out.le (show Le W0 W from hR)
      have zz := pp.isA
      obtain ⟨a0, a1, a2, a3, a4, a5, a6, a7⟩ := cells8 qq
      have qq' := Lib.hid qq
      have pp' := Lib.hid pp
      have zz' := Lib.hid zz
      clear zz pp qq
      simp only [fillAct, List.getD_cons_succ, List.getD_cons_zero, Act.put, List.setIfInBounds_toArray, List.set_cons_succ, List.set_cons_zero, e0] at hK' ⊢
      go_wp2
      exact hK' _ _ (leRel.refl _) zz'.out
    · refine monoStep_listG (fun x' W hf => ?_) fun x' W hR hf Q hK' _ => ?_
      · obtain ⟨e0, e1, e2, -⟩ := hf
        change _ = _ at e0
        simp only [fillAct, List.getD_cons_succ, List.getD_cons_zero, Act.put, List.setIfInBounds_toArray, List.set_cons_succ, List.set_cons_zero, e0]
        kernel_rfl
      obtain ⟨e0, e1, e2, -⟩ := hf
      change _ = _ at e0
      replace e1 : IsTurnA W (x' 26) _ := e1
      replace e2 : IsTurnA W (x' 27) _ := e2
      simp only [fillAct, List.getD_cons_succ, List.getD_cons_zero, Act.put, List.setIfInBounds_toArray, List.set_cons_succ, List.set_cons_zero, e0] at hK' ⊢
      have hcall := pf_n_SameTurn (resTA rD) (resTA rD) _ _ W e1 e2
      rw [sameT_self] at hcall
      have hcall' := Lib.hid hcall
      clear hcall
      go_wp2_with (fail)
      go_at_call 13
      refine hcall'.out.mono ?_
      rintro e w' ⟨rfl, y1⟩
      go_wp2
      exact hK' _ _ y1 rfl
    · refine monoStep_list rfl fun x' W hR hf Q hK' _ => ?_
      obtain ⟨e0, e1, -⟩ := hf
      change _ = _ at e0 e1
      simp only [fillAct, List.getD_cons_succ, List.getD_cons_zero, Act.put, List.setIfInBounds_toArray, List.set_cons_succ, List.set_cons_zero, e0, e1] at hK' ⊢
      go_wp2
      exact hK' _ _ (leRel.refl _) rfl
    · refine monoStep_list rfl fun x' W hR hf Q hK' _ => ?_
      obtain ⟨e0, -⟩ := hf
      change _ = _ at e0
      simp only [fillAct, List.getD_cons_succ, List.getD_cons_zero, Act.put, List.setIfInBounds_toArray, List.set_cons_succ, List.set_cons_zero, e0] at hK' ⊢
      go_wp2
      exact hK' _ _ (leRel.refl _) rfl
    · refine monoStep_listG (fun x' W hf => ?_) fun x' W hR hf Q hK' _ => ?_
      · obtain ⟨e0, -⟩ := hf
        change _ = _ at e0
        simp only [fillAct, List.getD_cons_succ, List.getD_cons_zero, Act.put, List.setIfInBounds_toArray, List.set_cons_succ, List.set_cons_zero, e0]
        kernel_rfl
      obtain ⟨e0, -⟩ := hf
      change _ = _ at e0
      simp only [fillAct, List.getD_cons_succ, List.getD_cons_zero, Act.put, List.setIfInBounds_toArray, List.set_cons_succ, List.set_cons_zero, e0] at hK' ⊢
      go_wp2
      exact hK' _ _ (leRel.refl _) rfl
    · refine monoStep_listG (fun x' W hf => ?_) fun x' W hR hf Q hK' _ => ?_
      · obtain ⟨e0, -⟩ := hf
        change _ = _ at e0
        simp only [fillAct, List.getD_cons_succ, List.getD_cons_zero, Act.put, List.setIfInBounds_toArray, List.set_cons_succ, List.set_cons_zero, e0]
        kernel_rfl
      obtain ⟨e0, -⟩ := hf
      change _ = _ at e0
      simp only [fillAct, List.getD_cons_succ, List.getD_cons_zero, Act.put, List.setIfInBounds_toArray, List.set_cons_succ, List.set_cons_zero, e0] at hK' ⊢
      go_wp2
      exact hK' _ _ (leRel.refl _) rfl
    · refine monoStep_listG (fun x' W hf => ?_) fun x' W hR hf Q hK' _ => ?_
      · obtain ⟨e0, e1, e2, -⟩ := hf
        change _ = _ at e0 e1 e2
        simp only [fillAct, List.getD_cons_succ, List.getD_cons_zero, Act.put, List.setIfInBounds_toArray, List.set_cons_succ, List.set_cons_zero, e0, e1, e2]
        kernel_rfl
      obtain ⟨e0, e1, e2, -⟩ := hf
      change _ = _ at e0 e1 e2
      simp only [fillAct, List.getD_cons_succ, List.getD_cons_zero, Act.put, List.setIfInBounds_toArray, List.set_cons_succ, List.set_cons_zero, e0, e1, e2] at hK' ⊢
      go_wp2
      exact hK' _ _ (leRel.refl _) rfl
    · refine monoStep_list rfl fun x' W hR hf Q hK' _ => ?_
      obtain ⟨e0, e1, -⟩ := hf
      change _ = _ at e0 e1
      simp only [fillAct, List.getD_cons_succ, List.getD_cons_zero, Act.put, List.setIfInBounds_toArray, List.set_cons_succ, List.set_cons_zero, e0, e1] at hK' ⊢
      go_wp2
      exact hK' _ _ (leRel.refl _) rfl
  · intro x' W hR hf Q' hQ1 _
    have e34 := hf 34 (by decide)
    change _ = _ at e34
    simp only [List.drop_succ_cons, List.drop_zero]
    rw [show List.range 35 = [0, 1, 2, 3, 4, 5, 6, 7, 8, 9, 10, 11, 12, 13, 14, 15, 16, 17, 18, 19, 20, 21, 22, 23, 24, 25, 26, 27, 28, 29, 30, 31, 32, 33, 34] from rfl]
    simp only [fillAct, List.getD_cons_succ, List.getD_cons_zero, Act.put, List.setIfInBounds_toArray, List.set_cons_succ, List.set_cons_zero, e34]
    clear hf
    have hleW := Lib.hid (hle'.out.trans (show Le W0 W from hR))
    clear hR
    go_wp2
    refine hQ1 _ _ (hK _ _ ?_)
    conv => arg 2; whnf
    go_upto_region 10 with (fail)
    exact next'.out _ _ (frame_mkN _ _ (by kernel_rfl)) hleW.out _ (by assumption)
end Go.Proofs.YtpjmbgfggonhhaaGreat
namespace Go.Proofs.YtpjmbgfggonhhaaGreat
open Go.RowKit Go.Shelf
set_option linter.unusedVariables false
set_option linter.unusedSimpArgs false
theorem wf_i64 {n : Int} (h : (Lit.int .i64 n).wf = true) : -9223372036854775808 ≤ n ∧ n ≤ 9223372036854775807 := by
  have h1 : IntKind.i64.min ≤ n ∧ n ≤ IntKind.i64.max := by simpa [Lit.wf] using h
  have e1 : IntKind.i64.min = -9223372036854775808 := by kernel_rfl
  have e2 : IntKind.i64.max = 9223372036854775807 := by kernel_rfl
  rw [e1, e2] at h1
  exact h1
theorem tx_join (w : World) (x y : FracA × FracA) (n p q : Int) (k5 k6 : Nat) (V : World) (h5 : ABox V k5 x) (h6 : ABox V k6 y) (hwV : Below w.heap.size w V) (hp0 : -9223372036854775808 ≤ p) (hp1 : p ≤ 9223372036854775807) (hq0 : -9223372036854775808 ≤ q) (hq1 : q ≤ 9223372036854775807) (t : Array Value) (ht : ∃ u : Nat → Value, t = #[(u 0), (u 1), .int .i64 n, .int .i64 p, .int .i64 q, .pointer (some ⟨k5, 0, none⟩), .pointer (some ⟨k6, 0, none⟩), (u 7), (u 8), (u 9), (u 10), (u 11), (u 12), (u 13), (u 14), (u 15), (u 16), (u 17), (u 18), (u 19), (u 20), (u 21), (u 22), (u 23), (u 24), (u 25), (u 26), (u 27), (u 28), (u 29), (u 30), (u 31), (u 32), (u 33), (u 34), (u 35), (u 36), (u 37), (u 38), (u 39), (u 40), (u 41), (u 42), (u 43), (u 44), (u 45), (u 46), (u 47), (u 48), (u 49), (u 50), (u 51), (u 52), (u 53), (u 54), (u 55), (u 56), (u 57), (u 58), (u 59), (u 60), (u 61), (u 62), (u 63), (u 64), (u 65), (u 66), (u 67), (u 68), (u 69), (u 70), (u 71), (u 72), (u 73), (u 74), (u 75), (u 76), (u 77), (u 78), (u 79), (u 80), (u 81), (u 82), (u 83), (u 84), (u 85), (u 86), (u 87), (u 88), (u 89), (u 90), (u 91), (u 92), (u 93), (u 94), (u 95), (u 96), (u 97), (u 98), (u 99), (u 100), (u 101), (u 102), (u 103), (u 104), (u 105), (u 106), (u 107), (u 108), (u 109), (u 110), (u 111), (u 112), (u 113), (u 114), (u 115), (u 116), (u 117), (u 118), (u 119), (u 120), (u 121), (u 122), (u 123), (u 124), (u 125), (u 126), (u 127), (u 128), (u 129), (u 130), (u 131), (u 132), (u 133), (u 134), (u 135), (u 136), (u 137), (u 138), (u 139), (u 140), (u 141), (u 142), (u 143), (u 144), (u 145), (u 146), (u 147), (u 148), (u 149), (u 150), (u 151), (u 152), (u 153), (u 154), (u 155), (u 156), (u 157), (u 158), (u 159), (u 160), (u 161), (u 162), (u 163), (u 164), (u 165), (u 166), (u 167), (u 168), (u 169), (u 170), (u 171), (u 172), (u 173), (u 174), (u 175)]) : TxFrom 3 w t V := by
  refine tx_from3 w x y n p q _ _ _ k5 k6 V V h5 h6 (Le.refl V) hp0 hp1 hq0 hq1 rfl rfl rfl (fun j11 j13 j15 j17 j19 j21 W1 t1 ht1 hle1 a1 a2 a3 a4 a5 a6 => ?_) t ht
  refine tx_from9 w x y n p q _ _ _ k5 k6 j11 j13 j15 j17 j19 j21 V W1 h5 hle1 a1 a2 a3 a4 a5 a6 (fun W2 t2 ht2 hle2 => ?_) t1 ht1
  refine tx_from10 w x y n p q _ _ k5 k6 V W2 h5 h6 hle2 hp0 hp1 hq0 hq1 rfl rfl (fun j24 j25 j26 j27 W3 t3 ht3 hle3 b1 b2 b3 b4 => ?_) t2 ht2
  exact tx_from14 w x n _ _ _ k5 j24 j25 j26 j27 V W3 h5 hwV hle3 rfl b1 b2 b3 b4 t3 ht3
set_option maxRecDepth 1000000 in
set_option maxHeartbeats 8000000 in
theorem law_ExactTurns (a0 : FracA × FracA) (x0 : Value) (a1 : FracA × FracA) (x1 : Value) (a2 a3 a4 : Int) (w : World) (w0 : IsTurnA w x0 a0) (w1 : IsTurnA w x1 a1) (w2 : (Lit.int .i64 a2).wf = true) (w3 : (Lit.int .i64 a3).wf = true) (w4 : (Lit.int .i64 a4).wf = true) :
    Calls Tryz.prog 3 #[x0, x1, .int .i64 a2, .int .i64 a3, .int .i64 a4] w fun e w' => e = .returned (.bool true) ∧ Below w.heap.size w w' := by
  obtain ⟨hp0, hp1⟩ := wf_i64 w3
  obtain ⟨hq0, hq1⟩ := wf_i64 w4
  clear w2 w3 w4
  obtain ⟨xaA, xac, xaB, xad, xbA, xbc, xbB, xbd, rfl, p1, p2⟩ := w0
  obtain ⟨yaA, yac, yaB, yad, ybA, ybc, ybB, ybd, rfl, q1, q2⟩ := w1
  obtain ⟨W0, hW0, hsz, hle, k0, k1⟩ := new2_le w (.cells #[.bool a0.1.sn, .slice xaA a0.1.gn.length xac, .bool a0.1.sd, .slice xaB a0.1.gd.length xad, .bool a0.2.sn, .slice xbA a0.2.gn.length xbc, .bool a0.2.sd, .slice xbB a0.2.gd.length xbd] 28) (.cells #[.bool a1.1.sn, .slice yaA a1.1.gn.length yac, .bool a1.1.sd, .slice yaB a1.1.gd.length yad, .bool a1.2.sn, .slice ybA a1.2.gn.length ybc, .bool a1.2.sd, .slice ybB a1.2.gd.length ybd] 28)
  have hbx : ABox W0 w.heap.size a0 := ⟨_, _, _, _, _, _, _, _, k0, p1.le hle, p2.le hle⟩
  have hby : ABox W0 (w.heap.size + 1) a1 := ⟨_, _, _, _, _, _, _, _, k1, q1.le hle, q2.le hle⟩
  have hg1 := pf_n_GreatTurn a0 6 _ W0 (by decide) (IsTurnA.mk (p1.le hle) (p2.le hle))
  rw [show ((6 : Nat) : Int) = 6 from rfl] at hg1
  obtain ⟨c0, c1, c2, c3, c4, c5, c6, c7⟩ := cells8 k0
  have hle' := Lib.hid hle
  have k0' := Lib.hid k0
  have k1' := Lib.hid k1
  have p1' := Lib.hid p1
  have p2' := Lib.hid p2
  have q1' := Lib.hid q1
  have q2' := Lib.hid q2
  have hbx' := Lib.hid hbx
  have hby' := Lib.hid hby
  have hg1' := Lib.hid hg1
  have hp0' := Lib.hid hp0
  have hp1' := Lib.hid hp1
  have hq0' := Lib.hid hq0
  have hq1' := Lib.hid hq1
  clear hq1 hq0 hp1 hp0 hg1 hby hbx q2 q1 p2 p1 k1 k0 hle
  go_enter Tryz.func3, Tryz.ntmps3
  go_wp2_with (fail)
  clear hW0
  go_at_call 4
  refine hg1'.out.mono ?_
  rintro e1 W1 ⟨rfl, hle1⟩
  have hleA := hle'.out.trans hle1
  by_cases hgX : greatT a0 6 = true
  · rw [hgX]
    have hleA' := Lib.hid hleA
    have hle1' := Lib.hid hle1
    clear hle1 hleA
    go_wp2
    go_ret
    exact ⟨rfl, hleA'.out⟩
  replace hgX : greatT a0 6 = false := by simpa using hgX
  rw [hgX]
  clear c0 c1 c2 c3 c4 c5 c6 c7
  have hg2 := pf_n_GreatTurn a1 6 _ W1 (by decide) (IsTurnA.mk ((q1'.out.le hle'.out).le hle1) ((q2'.out.le hle'.out).le hle1))
  rw [show ((6 : Nat) : Int) = 6 from rfl] at hg2
  obtain ⟨c0, c1, c2, c3, c4, c5, c6, c7⟩ := cells8 (box_later hle1 k1'.out)
  have hleA' := Lib.hid hleA
  have hle1' := Lib.hid hle1
  have hg2' := Lib.hid hg2
  have hgX' := Lib.hid hgX
  clear hgX hg2 hle1 hleA
  go_wp2_with (fail)
  go_at_call 4
  refine hg2'.out.mono ?_
  rintro e2 W2 ⟨rfl, hle2⟩
  have hleB := hleA'.out.trans hle2
  by_cases hgY : greatT a1 6 = true
  · rw [hgY]
    have hleB' := Lib.hid hleB
    have hle2' := Lib.hid hle2
    clear hle2 hleB
    go_wp2
    go_ret
    exact ⟨rfl, hleB'.out⟩
  replace hgY : greatT a1 6 = false := by simpa using hgY
  rw [hgY]
  clear c0 c1 c2 c3 c4 c5 c6 c7
  have hjoin := tx_join w a0 a1 a2 a3 a4 _ _ W2 (hbx'.out.le (hle1'.out.trans hle2)) (hby'.out.le (hle1'.out.trans hle2)) hleB hp0'.out hp1'.out hq0'.out hq1'.out
  have hleB' := Lib.hid hleB
  have hle2' := Lib.hid hle2
  have hgY' := Lib.hid hgY
  have hjoin' := Lib.hid hjoin
  clear hjoin hgY hle2 hleB
  go_upto_region 3 with (fail)
  exact hjoin'.out _ (frame_mkN _ _ (by kernel_rfl)) _ (by assumption)
end Go.Proofs.YtpjmbgfggonhhaaGreat
