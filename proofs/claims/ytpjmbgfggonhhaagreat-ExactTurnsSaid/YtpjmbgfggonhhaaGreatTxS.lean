/- law 1, ExactTurns: what the parts of the walk share. law 1, ExactTurns: regions 3 to 8. law 1, ExactTurns: regions 10 to 13. law 1, ExactTurns: regions 14 to 19. -/
import Derived.Test.YtpjmbgfggonhhaaGreatTurnKit
import Derived.Test.YtpjmbgfggonhhaaGreatTOpA
import Derived.Test.YtpjmbgfggonhhaaGreatTOpB
import Derived.Test.YtpjmbgfggonhhaaGreatTRB
import Derived.Test.YtpjmbgfggonhhaaGreatTRA
import Derived.Test.YtpjmbgfggonhhaaGreatTOp5
import Derived.Test.YtpjmbgfggonhhaaGreatTR6
namespace Go.Proofs.YtpjmbgfggonhhaaGreat
open Go.RowKit Go.Shelf
set_option linter.unusedVariables false
set_option linter.unusedSimpArgs false
/-- A box that holds what an operation answered. -/
def RBT (V W : World) (j : Nat) (res : Except Int G2) : Prop := V.heap.size ≤ j ∧ ∃ rs1 rA1 rn1 rc1 rt1 rB1 rm1 rd1 rs2 rA2 rn2 rc2 rt2 rB2 rm2 rd2, W.heap[j]? = some (.cells #[.bool rs1, .slice rA1 rn1 rc1, .bool rt1, .slice rB1 rm1 rd1, .bool rs2, .slice rA2 rn2 rc2, .bool rt2, .slice rB2 rm2 rd2] 28) ∧ IsResT W (.agg #[.bool rs1, .slice rA1 rn1 rc1, .bool rt1, .slice rB1 rm1 rd1, .bool rs2, .slice rA2 rn2 rc2, .bool rt2, .slice rB2 rm2 rd2]) (codeT res) res
theorem RBT.le {V W W' : World} {j : Nat} {res : Except Int G2} (h : RBT V W j res) (hb : Le W W') : RBT V W' j res := by
  obtain ⟨h1, rs1, rA1, rn1, rc1, rt1, rB1, rm1, rd1, rs2, rA2, rn2, rc2, rt2, rB2, rm2, rd2, h2, h3⟩ := h
  exact ⟨h1, rs1, rA1, rn1, rc1, rt1, rB1, rm1, rd1, rs2, rA2, rn2, rc2, rt2, rB2, rm2, rd2, box_later hb h2, h3.le hb⟩
theorem RBT.make {V W1 : World} {rs1 rt1 rs2 rt2 : Bool} {rA1 rB1 rA2 rB2 : Option Addr} {rn1 rc1 rm1 rd1 rn2 rc2 rm2 rd2 : Nat} {cc : Int} {res : Except Int G2} (hle : Le V W1) (h : IsResT W1 (.agg #[.bool rs1, .slice rA1 rn1 rc1, .bool rt1, .slice rB1 rm1 rd1, .bool rs2, .slice rA2 rn2 rc2, .bool rt2, .slice rB2 rm2 rd2]) cc res) :
    ∃ W2, W1.alloc (.cells #[.bool rs1, .slice rA1 rn1 rc1, .bool rt1, .slice rB1 rm1 rd1, .bool rs2, .slice rA2 rn2 rc2, .bool rt2, .slice rB2 rm2 rd2] 28) = W2 ∧ Le V W2 ∧ Le W1 W2 ∧ RBT V W2 W1.heap.size res := by
  have hc := h.code
  subst hc
  exact ⟨_, rfl, hle.trans (le_alloc _ _), le_alloc _ _, hle.size, _, _, _, _, _, _, _, _, _, _, _, _, _, _, _, _, by unfold World.alloc; exact Array.getElem?_push_size, h.le (le_alloc _ _)⟩
def RBQ (V W : World) (j : Nat) (res : Except Int Rat) : Prop := V.heap.size ≤ j ∧ ∃ rs1 rA1 rn1 rc1 rt1 rB1 rm1 rd1, W.heap[j]? = some (.cells #[.bool rs1, .slice rA1 rn1 rc1, .bool rt1, .slice rB1 rm1 rd1] 26) ∧ IsRes (fun _ => True) W (.agg #[.bool rs1, .slice rA1 rn1 rc1, .bool rt1, .slice rB1 rm1 rd1]) (codeR res) res
theorem RBQ.le {V W W' : World} {j : Nat} {res : Except Int Rat} (h : RBQ V W j res) (hb : Le W W') : RBQ V W' j res := by
  obtain ⟨h1, rs1, rA1, rn1, rc1, rt1, rB1, rm1, rd1, h2, h3⟩ := h
  exact ⟨h1, rs1, rA1, rn1, rc1, rt1, rB1, rm1, rd1, box_later hb h2, h3.le hb⟩
theorem RBQ.make {V W1 : World} {rs1 rt1 : Bool} {rA1 rB1 : Option Addr} {rn1 rc1 rm1 rd1 : Nat} {cc : Int} {res : Except Int Rat} (hle : Le V W1) (h : IsRes (fun _ => True) W1 (.agg #[.bool rs1, .slice rA1 rn1 rc1, .bool rt1, .slice rB1 rm1 rd1]) cc res) :
    ∃ W2, W1.alloc (.cells #[.bool rs1, .slice rA1 rn1 rc1, .bool rt1, .slice rB1 rm1 rd1] 26) = W2 ∧ Le V W2 ∧ Le W1 W2 ∧ RBQ V W2 W1.heap.size res := by
  have hc := h.code
  subst hc
  exact ⟨_, rfl, hle.trans (le_alloc _ _), le_alloc _ _, hle.size, _, _, _, _, _, _, _, _, by unfold World.alloc; exact Array.getElem?_push_size, h.le (le_alloc _ _)⟩
/-- What an answer reads as. -/
noncomputable def fracV (r : Rat) : FracA := ⟨rneg r, dg (rnum r), false, dg r.den⟩
def fracZ : FracA := ⟨false, [], false, []⟩
noncomputable def resA : Except Int Rat → FracA
  | .ok r => fracV r
  | .error _ => fracZ
noncomputable def resTA : Except Int G2 → FracA × FracA
  | .ok g => (fracV g.1, fracV g.2)
  | .error _ => (fracZ, fracZ)
theorem FracL.isA {L : Nat → Prop} {w : World} {v : Value} {r : Rat} (h : FracL L w v r) : IsFracA L w v (fracV r) := by
  obtain ⟨A, c, B, d, rfl, h1, h2⟩ := h
  exact ⟨A, c, B, d, rfl, h1.1, h2.1⟩
theorem zeroF_isA (L : Nat → Prop) (w : World) : IsFracA L w (.agg #[.bool false, .slice none 0 0, .bool false, .slice none 0 0]) fracZ :=
  ⟨none, 0, none, 0, rfl, ⟨none, 0, rfl, Nat.le_refl _, by decide, by decide, fun h => absurd h (Nat.lt_irrefl 0)⟩, ⟨none, 0, rfl, Nat.le_refl _, by decide, by decide, fun h => absurd h (Nat.lt_irrefl 0)⟩⟩
theorem IsRes.isA {L : Nat → Prop} {w : World} {v : Value} {c : Int} {res : Except Int Rat} (h : IsRes L w v c res) : IsFracA L w v (resA res) := by
  cases res with
  | ok r => exact h.1.isA
  | error x =>
    obtain ⟨rfl, -⟩ := h
    exact zeroF_isA L w
theorem IsResT.isA {w : World} {v : Value} {c : Int} {res : Except Int G2} (h : IsResT w v c res) : IsTurnA w v (resTA res) := by
  cases res with
  | ok g =>
    obtain ⟨⟨rs1, rA1, rn1, rc1, rt1, rB1, rm1, rd1, rs2, rA2, rn2, rc2, rt2, rB2, rm2, rd2, rfl, h1, h2⟩, -⟩ := h
    obtain ⟨A, c, B, d, e1, p1, p2⟩ := h1.isA
    obtain ⟨A', c', B', d', e2, q1, q2⟩ := h2.isA
    injection e1 with e1
    injection e2 with e2
    simp only [Array.mk.injEq, List.cons.injEq, and_true] at e1 e2
    obtain ⟨a1, a2, a3, a4⟩ := e1
    obtain ⟨b1, b2, b3, b4⟩ := e2
    rw [a1, a2, a3, a4, b1, b2, b3, b4]
    exact ⟨_, _, _, _, _, _, _, _, rfl, ⟨_, _, _, _, rfl, p1, p2⟩, ⟨_, _, _, _, rfl, q1, q2⟩⟩
  | error x =>
    obtain ⟨rfl, -⟩ := h
    exact ⟨none, 0, none, 0, none, 0, none, 0, rfl, zeroF_isA _ w, zeroF_isA _ w⟩
theorem sameT_self (x : FracA × FracA) : sameT x x = true := by unfold sameT; rw [sameF_self, sameF_self]; rfl
theorem great_two {n : Nat} (h : bigB n 2 = false) (h40 : n ≤ 40) : n ≤ 2 := by
  unfold bigB at h
  rw [Bool.or_eq_false_iff] at h
  have h1 := h.1
  simp at h1
  omega
theorem great_tsz {x : FracA × FracA} (h : greatT x 2 = false) {r : G2} (hr : tval x = some r) : TSz r 2 := by
  unfold greatT at h
  rw [Bool.or_eq_false_iff] at h
  obtain ⟨h1, h2⟩ := tval_parts hr
  have part : ∀ (y : FracA) (s : Rat), y.rat? = some s → greatB y 2 = false → Rsz s 2 := by
    intro y s hs hb
    unfold greatB at hb
    rw [Bool.or_eq_false_iff] at hb
    have hv := FracA.val hs
    have hz := FracA.sz hs
    exact ⟨by have := great_two hb.1 (by rw [← hv.num]; exact hz.1); rw [hv.num]; exact this, by have := great_two hb.2 (by rw [← hv.den]; exact hz.2); rw [hv.den]; exact this⟩
  exact ⟨part _ _ h1 h.1, part _ _ h2 h.2⟩
def txL : Code → Code
  | .seq a _ => a
  | c => c
def txR : Code → Code
  | .seq _ b => b
  | c => c
noncomputable def txTail (k : Nat) : Code := (fromRegionN k ((Tryz.f3).body.getD .skip)).getD 0 .skip
def TxPost (w : World) (e : Ending) (w' : World) : Prop := e = .returned (.bool true) ∧ Below w.heap.size w w'
/-- From region k on the law answers true: as the walk finds it. -/
def TxFrom (k : Nat) (w : World) (t : Array Value) (W : World) : Prop := ∀ K : Act → World → Prop, (∀ a w1, (txR (txTail k)).wp Tryz.prog (bodyPost Tryz.prog Tryz.f3 (TxPost w)) a w1 → K a w1) →
  (txL (txTail k)).wp Tryz.prog (Exit.then K (bodyPost Tryz.prog Tryz.f3 (TxPost w))) { tmps := t, defers := [] } W
end Go.Proofs.YtpjmbgfggonhhaaGreat
namespace Go.Proofs.YtpjmbgfggonhhaaGreat
open Go.RowKit Go.Shelf
set_option linter.unusedVariables false
set_option linter.unusedSimpArgs false
set_option maxRecDepth 1000000 in
set_option maxHeartbeats 8000000 in
theorem tx_from3 (w : World) (x y : FracA × FracA) (n p q : Int) (rA rM rD : Except Int G2) (k5 k6 : Nat) (V W : World) (h5 : ABox V k5 x) (h6 : ABox V k6 y) (hle : Le V W) (hp0 : -9223372036854775808 ≤ p) (hp1 : p ≤ 9223372036854775807) (hq0 : -9223372036854775808 ≤ q) (hq1 : q ≤ 9223372036854775807)  (eA : opG (fun a b => outG (gadd a b)) x y = rA) (eM : opG (fun a b => outG (gmul a b)) x y = rM) (eD : opG divG x y = rD)
    (next : ∀ (j11 j13 j15 j17 j19 j21 : Nat) (W : World) (t : Array Value), (∃ u : Nat → Value, t = #[(u 0), (u 1), .int .i64 n, .int .i64 p, .int .i64 q, .pointer (some ⟨k5, 0, none⟩), .pointer (some ⟨k6, 0, none⟩), (u 7), (u 8), (u 9), (u 10), .pointer (some ⟨j11, 0, none⟩), .int .i64 (codeT rA), .pointer (some ⟨j13, 0, none⟩), .int .i64 (codeT rA), .pointer (some ⟨j15, 0, none⟩), .int .i64 (codeT rM), .pointer (some ⟨j17, 0, none⟩), .int .i64 (codeT rM), .pointer (some ⟨j19, 0, none⟩), .int .i64 (codeT rD), .pointer (some ⟨j21, 0, none⟩), .int .i64 (codeT rD), (u 23), (u 24), (u 25), (u 26), (u 27), (u 28), (u 29), (u 30), (u 31), (u 32), (u 33), (u 34), (u 35), (u 36), (u 37), (u 38), (u 39), (u 40), (u 41), (u 42), (u 43), (u 44), (u 45), (u 46), (u 47), (u 48), (u 49), (u 50), (u 51), (u 52), (u 53), (u 54), (u 55), (u 56), (u 57), (u 58), (u 59), (u 60), (u 61), (u 62), (u 63), (u 64), (u 65), (u 66), (u 67), (u 68), (u 69), (u 70), (u 71), (u 72), (u 73), (u 74), (u 75), (u 76), (u 77), (u 78), (u 79), (u 80), (u 81), (u 82), (u 83), (u 84), (u 85), (u 86), (u 87), (u 88), (u 89), (u 90), (u 91), (u 92), (u 93), (u 94), (u 95), (u 96), (u 97), (u 98), (u 99), (u 100), (u 101), (u 102), (u 103), (u 104), (u 105), (u 106), (u 107), (u 108), (u 109), (u 110), (u 111), (u 112), (u 113), (u 114), (u 115), (u 116), (u 117), (u 118), (u 119), (u 120), (u 121), (u 122), (u 123), (u 124), (u 125), (u 126), (u 127), (u 128), (u 129), (u 130), (u 131), (u 132), (u 133), (u 134), (u 135), (u 136), (u 137), (u 138), (u 139), (u 140), (u 141), (u 142), (u 143), (u 144), (u 145), (u 146), (u 147), (u 148), (u 149), (u 150), (u 151), (u 152), (u 153), (u 154), (u 155), (u 156), (u 157), (u 158), (u 159), (u 160), (u 161), (u 162), (u 163), (u 164), (u 165), (u 166), (u 167), (u 168), (u 169), (u 170), (u 171), (u 172), (u 173), (u 174), (u 175)]) → Le V W → RBT V W j11 rA → RBT V W j13 rA → RBT V W j15 rM → RBT V W j17 rM → RBT V W j19 rD → RBT V W j21 rD → TxFrom 9 w t W)
    (t : Array Value) (ht : ∃ u : Nat → Value, t = #[(u 0), (u 1), .int .i64 n, .int .i64 p, .int .i64 q, .pointer (some ⟨k5, 0, none⟩), .pointer (some ⟨k6, 0, none⟩), (u 7), (u 8), (u 9), (u 10), (u 11), (u 12), (u 13), (u 14), (u 15), (u 16), (u 17), (u 18), (u 19), (u 20), (u 21), (u 22), (u 23), (u 24), (u 25), (u 26), (u 27), (u 28), (u 29), (u 30), (u 31), (u 32), (u 33), (u 34), (u 35), (u 36), (u 37), (u 38), (u 39), (u 40), (u 41), (u 42), (u 43), (u 44), (u 45), (u 46), (u 47), (u 48), (u 49), (u 50), (u 51), (u 52), (u 53), (u 54), (u 55), (u 56), (u 57), (u 58), (u 59), (u 60), (u 61), (u 62), (u 63), (u 64), (u 65), (u 66), (u 67), (u 68), (u 69), (u 70), (u 71), (u 72), (u 73), (u 74), (u 75), (u 76), (u 77), (u 78), (u 79), (u 80), (u 81), (u 82), (u 83), (u 84), (u 85), (u 86), (u 87), (u 88), (u 89), (u 90), (u 91), (u 92), (u 93), (u 94), (u 95), (u 96), (u 97), (u 98), (u 99), (u 100), (u 101), (u 102), (u 103), (u 104), (u 105), (u 106), (u 107), (u 108), (u 109), (u 110), (u 111), (u 112), (u 113), (u 114), (u 115), (u 116), (u 117), (u 118), (u 119), (u 120), (u 121), (u 122), (u 123), (u 124), (u 125), (u 126), (u 127), (u 128), (u 129), (u 130), (u 131), (u 132), (u 133), (u 134), (u 135), (u 136), (u 137), (u 138), (u 139), (u 140), (u 141), (u 142), (u 143), (u 144), (u 145), (u 146), (u 147), (u 148), (u 149), (u 150), (u 151), (u 152), (u 153), (u 154), (u 155), (u 156), (u 157), (u 158), (u 159), (u 160), (u 161), (u 162), (u 163), (u 164), (u 165), (u 166), (u 167), (u 168), (u 169), (u 170), (u 171), (u 172), (u 173), (u 174), (u 175)]) : TxFrom 3 w t W := by
  intro K hK
  obtain ⟨u, rfl⟩ := ht
  obtain ⟨x1A, x1c, x1B, x1d, x2A, x2c, x2B, x2d, g5, i51, i52⟩ := h5
  obtain ⟨y1A, y1c, y1B, y1d, y2A, y2c, y2B, y2d, g6, i61, i62⟩ := h6
  conv => arg 2; whnf
  have next' := Lib.hid next
  have g5' := Lib.hid g5
  have g6' := Lib.hid g6
  have i51' := Lib.hid i51
  have i52' := Lib.hid i52
  have i61' := Lib.hid i61
  have i62' := Lib.hid i62
  have hle' := Lib.hid hle
  have hp0' := Lib.hid hp0
  have hp1' := Lib.hid hp1
  have hq0' := Lib.hid hq0
  have hq1' := Lib.hid hq1
  have eA' := Lib.hid eA
  have eM' := Lib.hid eM
  have eD' := Lib.hid eD
  clear eD eM eA hq1 hq0 hp1 hp0 hle i62 i61 i52 i51 g6 g5 next
  obtain ⟨a0, a1, a2, a3, a4, a5, a6, a7⟩ := cells8 (box_later hle'.out g5'.out)
  obtain ⟨b0, b1, b2, b3, b4, b5, b6, b7⟩ := cells8 (box_later hle'.out g6'.out)
  have hcall := pf_AddTurn x y _ _ W (IsTurnA.mk (i51'.out.le hle'.out) (i52'.out.le hle'.out)) (IsTurnA.mk (i61'.out.le hle'.out) (i62'.out.le hle'.out))
  rw [eA'.out] at hcall
  have hcall' := Lib.hid hcall
  clear hcall
  go_wp2_with (fail)
  go_at_call 5
  refine hcall'.out.mono ?_
  rintro e X0 ⟨hle1, v1, cc, rfl, hres⟩
  obtain ⟨r0s1, r0A1, r0n1, r0c1, r0t1, r0B1, r0m1, r0d1, r0s2, r0A2, r0n2, r0c2, r0t2, r0B2, r0m2, r0d2, rfl⟩ := hres.form
  obtain rfl := hres.code
  have hleX := hle'.out.trans hle1
  obtain ⟨W0, hW0, hleV, hleY, h11⟩ := RBT.make hleX hres
  have hleZ := hle1.trans hleY
  have hleN0 := Lib.hid hleV
  clear hres hle1 hleX hleV hleY hleZ hcall' a0 a1 a2 a3 a4 a5 a6 a7 b0 b1 b2 b3 b4 b5 b6 b7
  have h11' := Lib.hid h11
  clear h11
  obtain ⟨a0, a1, a2, a3, a4, a5, a6, a7⟩ := cells8 (box_later hleN0.out g5'.out)
  obtain ⟨b0, b1, b2, b3, b4, b5, b6, b7⟩ := cells8 (box_later hleN0.out g6'.out)
  have hcall := pf_n_AddTurn x y _ _ W0 (IsTurnA.mk (i51'.out.le hleN0.out) (i52'.out.le hleN0.out)) (IsTurnA.mk (i61'.out.le hleN0.out) (i62'.out.le hleN0.out))
  rw [eA'.out] at hcall
  have hcall' := Lib.hid hcall
  clear hcall
  go_wp2_with (fail)
  conv => arg 2; whnf
  go_wp2_with (fail)
  clear hW0
  go_at_call 6
  refine hcall'.out.mono ?_
  rintro e X1 ⟨hle1, v1, cc, rfl, hres⟩
  obtain ⟨r1s1, r1A1, r1n1, r1c1, r1t1, r1B1, r1m1, r1d1, r1s2, r1A2, r1n2, r1c2, r1t2, r1B2, r1m2, r1d2, rfl⟩ := hres.form
  obtain rfl := hres.code
  have hleX := hleN0.out.trans hle1
  obtain ⟨W1, hW1, hleV, hleY, h13⟩ := RBT.make hleX hres
  have hleZ := hle1.trans hleY
  have hleN1 := Lib.hid hleV
  have h11N := Lib.hid (h11'.out.le hleZ)
  clear h11'
  have h11' := h11N
  clear h11N
  clear hres hle1 hleX hleV hleY hleZ hcall' a0 a1 a2 a3 a4 a5 a6 a7 b0 b1 b2 b3 b4 b5 b6 b7
  have h13' := Lib.hid h13
  clear h13
  obtain ⟨a0, a1, a2, a3, a4, a5, a6, a7⟩ := cells8 (box_later hleN1.out g5'.out)
  obtain ⟨b0, b1, b2, b3, b4, b5, b6, b7⟩ := cells8 (box_later hleN1.out g6'.out)
  have hcall := pf_MulTurn x y _ _ W1 (IsTurnA.mk (i51'.out.le hleN1.out) (i52'.out.le hleN1.out)) (IsTurnA.mk (i61'.out.le hleN1.out) (i62'.out.le hleN1.out))
  rw [eM'.out] at hcall
  have hcall' := Lib.hid hcall
  clear hcall
  go_wp2_with (fail)
  clear hW1
  go_at_call 7
  refine hcall'.out.mono ?_
  rintro e X2 ⟨hle1, v1, cc, rfl, hres⟩
  obtain ⟨r2s1, r2A1, r2n1, r2c1, r2t1, r2B1, r2m1, r2d1, r2s2, r2A2, r2n2, r2c2, r2t2, r2B2, r2m2, r2d2, rfl⟩ := hres.form
  obtain rfl := hres.code
  have hleX := hleN1.out.trans hle1
  obtain ⟨W2, hW2, hleV, hleY, h15⟩ := RBT.make hleX hres
  have hleZ := hle1.trans hleY
  have hleN2 := Lib.hid hleV
  have h11N := Lib.hid (h11'.out.le hleZ)
  clear h11'
  have h11' := h11N
  clear h11N
  have h13N := Lib.hid (h13'.out.le hleZ)
  clear h13'
  have h13' := h13N
  clear h13N
  clear hres hle1 hleX hleV hleY hleZ hcall' a0 a1 a2 a3 a4 a5 a6 a7 b0 b1 b2 b3 b4 b5 b6 b7
  have h15' := Lib.hid h15
  clear h15
  obtain ⟨a0, a1, a2, a3, a4, a5, a6, a7⟩ := cells8 (box_later hleN2.out g5'.out)
  obtain ⟨b0, b1, b2, b3, b4, b5, b6, b7⟩ := cells8 (box_later hleN2.out g6'.out)
  have hcall := pf_n_MulTurn x y _ _ W2 (IsTurnA.mk (i51'.out.le hleN2.out) (i52'.out.le hleN2.out)) (IsTurnA.mk (i61'.out.le hleN2.out) (i62'.out.le hleN2.out))
  rw [eM'.out] at hcall
  have hcall' := Lib.hid hcall
  clear hcall
  go_wp2_with (fail)
  clear hW2
  go_at_call 8
  refine hcall'.out.mono ?_
  rintro e X3 ⟨hle1, v1, cc, rfl, hres⟩
  obtain ⟨r3s1, r3A1, r3n1, r3c1, r3t1, r3B1, r3m1, r3d1, r3s2, r3A2, r3n2, r3c2, r3t2, r3B2, r3m2, r3d2, rfl⟩ := hres.form
  obtain rfl := hres.code
  have hleX := hleN2.out.trans hle1
  obtain ⟨W3, hW3, hleV, hleY, h17⟩ := RBT.make hleX hres
  have hleZ := hle1.trans hleY
  have hleN3 := Lib.hid hleV
  have h11N := Lib.hid (h11'.out.le hleZ)
  clear h11'
  have h11' := h11N
  clear h11N
  have h13N := Lib.hid (h13'.out.le hleZ)
  clear h13'
  have h13' := h13N
  clear h13N
  have h15N := Lib.hid (h15'.out.le hleZ)
  clear h15'
  have h15' := h15N
  clear h15N
  clear hres hle1 hleX hleV hleY hleZ hcall' a0 a1 a2 a3 a4 a5 a6 a7 b0 b1 b2 b3 b4 b5 b6 b7
  have h17' := Lib.hid h17
  clear h17
  obtain ⟨a0, a1, a2, a3, a4, a5, a6, a7⟩ := cells8 (box_later hleN3.out g5'.out)
  obtain ⟨b0, b1, b2, b3, b4, b5, b6, b7⟩ := cells8 (box_later hleN3.out g6'.out)
  have hcall := pf_DivTurn x y _ _ W3 (IsTurnA.mk (i51'.out.le hleN3.out) (i52'.out.le hleN3.out)) (IsTurnA.mk (i61'.out.le hleN3.out) (i62'.out.le hleN3.out))
  rw [eD'.out] at hcall
  have hcall' := Lib.hid hcall
  clear hcall
  go_wp2_with (fail)
  clear hW3
  go_at_call 9
  refine hcall'.out.mono ?_
  rintro e X4 ⟨hle1, v1, cc, rfl, hres⟩
  obtain ⟨r4s1, r4A1, r4n1, r4c1, r4t1, r4B1, r4m1, r4d1, r4s2, r4A2, r4n2, r4c2, r4t2, r4B2, r4m2, r4d2, rfl⟩ := hres.form
  obtain rfl := hres.code
  have hleX := hleN3.out.trans hle1
  obtain ⟨W4, hW4, hleV, hleY, h19⟩ := RBT.make hleX hres
  have hleZ := hle1.trans hleY
  have hleN4 := Lib.hid hleV
  have h11N := Lib.hid (h11'.out.le hleZ)
  clear h11'
  have h11' := h11N
  clear h11N
  have h13N := Lib.hid (h13'.out.le hleZ)
  clear h13'
  have h13' := h13N
  clear h13N
  have h15N := Lib.hid (h15'.out.le hleZ)
  clear h15'
  have h15' := h15N
  clear h15N
  have h17N := Lib.hid (h17'.out.le hleZ)
  clear h17'
  have h17' := h17N
  clear h17N
  clear hres hle1 hleX hleV hleY hleZ hcall' a0 a1 a2 a3 a4 a5 a6 a7 b0 b1 b2 b3 b4 b5 b6 b7
  have h19' := Lib.hid h19
  clear h19
  obtain ⟨a0, a1, a2, a3, a4, a5, a6, a7⟩ := cells8 (box_later hleN4.out g5'.out)
  obtain ⟨b0, b1, b2, b3, b4, b5, b6, b7⟩ := cells8 (box_later hleN4.out g6'.out)
  have hcall := pf_n_DivTurn x y _ _ W4 (IsTurnA.mk (i51'.out.le hleN4.out) (i52'.out.le hleN4.out)) (IsTurnA.mk (i61'.out.le hleN4.out) (i62'.out.le hleN4.out))
  rw [eD'.out] at hcall
  have hcall' := Lib.hid hcall
  clear hcall
  go_wp2_with (fail)
  clear hW4
  go_at_call 10
  refine hcall'.out.mono ?_
  rintro e X5 ⟨hle1, v1, cc, rfl, hres⟩
  obtain ⟨r5s1, r5A1, r5n1, r5c1, r5t1, r5B1, r5m1, r5d1, r5s2, r5A2, r5n2, r5c2, r5t2, r5B2, r5m2, r5d2, rfl⟩ := hres.form
  obtain rfl := hres.code
  have hleX := hleN4.out.trans hle1
  obtain ⟨W5, hW5, hleV, hleY, h21⟩ := RBT.make hleX hres
  have hleZ := hle1.trans hleY
  have hleN5 := Lib.hid hleV
  have h11N := Lib.hid (h11'.out.le hleZ)
  clear h11'
  have h11' := h11N
  clear h11N
  have h13N := Lib.hid (h13'.out.le hleZ)
  clear h13'
  have h13' := h13N
  clear h13N
  have h15N := Lib.hid (h15'.out.le hleZ)
  clear h15'
  have h15' := h15N
  clear h15N
  have h17N := Lib.hid (h17'.out.le hleZ)
  clear h17'
  have h17' := h17N
  clear h17N
  have h19N := Lib.hid (h19'.out.le hleZ)
  clear h19'
  have h19' := h19N
  clear h19N
  clear hres hle1 hleX hleV hleY hleZ hcall' a0 a1 a2 a3 a4 a5 a6 a7 b0 b1 b2 b3 b4 b5 b6 b7
  have h21' := Lib.hid h21
  clear h21
  go_upto_region 9 with (fail)
  exact next'.out _ _ _ _ _ _ _ _ (frame_mkN _ _ (by kernel_rfl)) hleN5.out h11'.out h13'.out h15'.out h17'.out h19'.out h21'.out _ (by assumption)
end Go.Proofs.YtpjmbgfggonhhaaGreat
namespace Go.Proofs.YtpjmbgfggonhhaaGreat
open Go.RowKit Go.Shelf
set_option linter.unusedVariables false
set_option linter.unusedSimpArgs false
set_option maxRecDepth 1000000 in
set_option maxHeartbeats 8000000 in
theorem tx_from10 (w : World) (x y : FracA × FracA) (n p q : Int) (rN : Except Int Rat) (rC : Except Int G2) (k5 k6 : Nat) (V W : World) (h5 : ABox V k5 x) (h6 : ABox V k6 y) (hle : Le V W) (hp0 : -9223372036854775808 ≤ p) (hp1 : p ≤ 9223372036854775807) (hq0 : -9223372036854775808 ≤ q) (hq1 : q ≤ 9223372036854775807)  (eN : normR x = rN) (eC : aroundG p q = rC)
    (next : ∀ (j24 j25 j26 j27 : Nat) (W : World) (t : Array Value), (∃ u : Nat → Value, t = #[(u 0), (u 1), .int .i64 n, (u 3), (u 4), .pointer (some ⟨k5, 0, none⟩), (u 6), (u 7), (u 8), (u 9), (u 10), (u 11), .int .i64 (codeR rN), (u 13), .int .i64 (codeR rN), (u 15), .int .i64 (codeT rC), (u 17), .int .i64 (codeT rC), (u 19), (u 20), (u 21), (u 22), .bool true, .pointer (some ⟨j24, 0, none⟩), .pointer (some ⟨j25, 0, none⟩), .pointer (some ⟨j26, 0, none⟩), .pointer (some ⟨j27, 0, none⟩), (u 28), (u 29), (u 30), (u 31), (u 32), (u 33), (u 34), (u 35), (u 36), (u 37), (u 38), (u 39), (u 40), (u 41), (u 42), (u 43), (u 44), (u 45), (u 46), (u 47), (u 48), (u 49), (u 50), (u 51), (u 52), (u 53), (u 54), (u 55), (u 56), (u 57), (u 58), (u 59), (u 60), (u 61), (u 62), (u 63), (u 64), (u 65), (u 66), (u 67), (u 68), (u 69), (u 70), (u 71), (u 72), (u 73), (u 74), (u 75), (u 76), (u 77), (u 78), (u 79), (u 80), (u 81), (u 82), (u 83), (u 84), (u 85), (u 86), (u 87), (u 88), (u 89), (u 90), (u 91), (u 92), (u 93), (u 94), (u 95), (u 96), (u 97), (u 98), (u 99), (u 100), (u 101), (u 102), (u 103), (u 104), (u 105), (u 106), (u 107), (u 108), (u 109), (u 110), (u 111), (u 112), (u 113), (u 114), (u 115), (u 116), (u 117), (u 118), (u 119), (u 120), (u 121), (u 122), (u 123), (u 124), (u 125), (u 126), (u 127), (u 128), (u 129), (u 130), (u 131), (u 132), (u 133), (u 134), (u 135), (u 136), (u 137), (u 138), (u 139), (u 140), (u 141), (u 142), (u 143), (u 144), (u 145), (u 146), (u 147), (u 148), (u 149), (u 150), (u 151), (u 152), (u 153), (u 154), (u 155), (u 156), (u 157), (u 158), (u 159), (u 160), (u 161), (u 162), (u 163), (u 164), (u 165), (u 166), (u 167), (u 168), (u 169), (u 170), (u 171), (u 172), (u 173), (u 174), (u 175)]) → Le V W → RBQ V W j24 rN → RBQ V W j25 rN → RBT V W j26 rC → RBT V W j27 rC → TxFrom 14 w t W)
    (t : Array Value) (ht : ∃ u : Nat → Value, t = #[(u 0), (u 1), .int .i64 n, .int .i64 p, .int .i64 q, .pointer (some ⟨k5, 0, none⟩), .pointer (some ⟨k6, 0, none⟩), (u 7), (u 8), (u 9), (u 10), (u 11), (u 12), (u 13), (u 14), (u 15), (u 16), (u 17), (u 18), (u 19), (u 20), (u 21), (u 22), .bool true, (u 24), (u 25), (u 26), (u 27), (u 28), (u 29), (u 30), (u 31), (u 32), (u 33), (u 34), (u 35), (u 36), (u 37), (u 38), (u 39), (u 40), (u 41), (u 42), (u 43), (u 44), (u 45), (u 46), (u 47), (u 48), (u 49), (u 50), (u 51), (u 52), (u 53), (u 54), (u 55), (u 56), (u 57), (u 58), (u 59), (u 60), (u 61), (u 62), (u 63), (u 64), (u 65), (u 66), (u 67), (u 68), (u 69), (u 70), (u 71), (u 72), (u 73), (u 74), (u 75), (u 76), (u 77), (u 78), (u 79), (u 80), (u 81), (u 82), (u 83), (u 84), (u 85), (u 86), (u 87), (u 88), (u 89), (u 90), (u 91), (u 92), (u 93), (u 94), (u 95), (u 96), (u 97), (u 98), (u 99), (u 100), (u 101), (u 102), (u 103), (u 104), (u 105), (u 106), (u 107), (u 108), (u 109), (u 110), (u 111), (u 112), (u 113), (u 114), (u 115), (u 116), (u 117), (u 118), (u 119), (u 120), (u 121), (u 122), (u 123), (u 124), (u 125), (u 126), (u 127), (u 128), (u 129), (u 130), (u 131), (u 132), (u 133), (u 134), (u 135), (u 136), (u 137), (u 138), (u 139), (u 140), (u 141), (u 142), (u 143), (u 144), (u 145), (u 146), (u 147), (u 148), (u 149), (u 150), (u 151), (u 152), (u 153), (u 154), (u 155), (u 156), (u 157), (u 158), (u 159), (u 160), (u 161), (u 162), (u 163), (u 164), (u 165), (u 166), (u 167), (u 168), (u 169), (u 170), (u 171), (u 172), (u 173), (u 174), (u 175)]) : TxFrom 10 w t W := by
  intro K hK
  obtain ⟨u, rfl⟩ := ht
  obtain ⟨x1A, x1c, x1B, x1d, x2A, x2c, x2B, x2d, g5, i51, i52⟩ := h5
  obtain ⟨y1A, y1c, y1B, y1d, y2A, y2c, y2B, y2d, g6, i61, i62⟩ := h6
  conv => arg 2; whnf
  have next' := Lib.hid next
  have g5' := Lib.hid g5
  have g6' := Lib.hid g6
  have i51' := Lib.hid i51
  have i52' := Lib.hid i52
  have i61' := Lib.hid i61
  have i62' := Lib.hid i62
  have hle' := Lib.hid hle
  have hp0' := Lib.hid hp0
  have hp1' := Lib.hid hp1
  have hq0' := Lib.hid hq0
  have hq1' := Lib.hid hq1
  have eN' := Lib.hid eN
  have eC' := Lib.hid eC
  clear eC eN hq1 hq0 hp1 hp0 hle i62 i61 i52 i51 g6 g5 next
  obtain ⟨a0, a1, a2, a3, a4, a5, a6, a7⟩ := cells8 (box_later hle'.out g5'.out)
  have hcall := pf_Norm x _ W (IsTurnA.mk (i51'.out.le hle'.out) (i52'.out.le hle'.out))
  rw [eN'.out] at hcall
  have hcall' := Lib.hid hcall
  clear hcall
  go_wp2_with (fail)
  go_at_call 14
  refine hcall'.out.mono ?_
  rintro e X0 ⟨hle1, v1, cc, rfl, hres⟩
  obtain ⟨r0s1, r0A1, r0n1, r0c1, r0t1, r0B1, r0m1, r0d1, rfl⟩ := hres.form
  obtain rfl := hres.code
  have hleX := hle'.out.trans hle1
  obtain ⟨W0, hW0, hleV, hleY, h24⟩ := RBQ.make hleX hres
  have hleZ := hle1.trans hleY
  have hleN0 := Lib.hid hleV
  clear hres hle1 hleX hleV hleY hleZ hcall' a0 a1 a2 a3 a4 a5 a6 a7
  have h24' := Lib.hid h24
  clear h24
  obtain ⟨a0, a1, a2, a3, a4, a5, a6, a7⟩ := cells8 (box_later hleN0.out g5'.out)
  have hcall := pf_n_Norm x _ W0 (IsTurnA.mk (i51'.out.le hleN0.out) (i52'.out.le hleN0.out))
  rw [eN'.out] at hcall
  have hcall' := Lib.hid hcall
  clear hcall
  go_wp2_with (fail)
  conv => arg 2; whnf
  go_wp2_with (fail)
  clear hW0
  go_at_call 15
  refine hcall'.out.mono ?_
  rintro e X1 ⟨hle1, v1, cc, rfl, hres⟩
  obtain ⟨r1s1, r1A1, r1n1, r1c1, r1t1, r1B1, r1m1, r1d1, rfl⟩ := hres.form
  obtain rfl := hres.code
  have hleX := hleN0.out.trans hle1
  obtain ⟨W1, hW1, hleV, hleY, h25⟩ := RBQ.make hleX hres
  have hleZ := hle1.trans hleY
  have hleN1 := Lib.hid hleV
  have h24N := Lib.hid (h24'.out.le hleZ)
  clear h24'
  have h24' := h24N
  clear h24N
  clear hres hle1 hleX hleV hleY hleZ hcall' a0 a1 a2 a3 a4 a5 a6 a7
  have h25' := Lib.hid h25
  clear h25
  have hcall := pf_Around p q W1 hp0'.out hp1'.out hq0'.out hq1'.out
  rw [eC'.out] at hcall
  have hcall' := Lib.hid hcall
  clear hcall
  go_wp2_with (fail)
  clear hW1
  go_at_call 16
  refine hcall'.out.mono ?_
  rintro e X2 ⟨hle1, v1, cc, rfl, hres⟩
  obtain ⟨r2s1, r2A1, r2n1, r2c1, r2t1, r2B1, r2m1, r2d1, r2s2, r2A2, r2n2, r2c2, r2t2, r2B2, r2m2, r2d2, rfl⟩ := hres.form
  obtain rfl := hres.code
  have hleX := hleN1.out.trans hle1
  obtain ⟨W2, hW2, hleV, hleY, h26⟩ := RBT.make hleX hres
  have hleZ := hle1.trans hleY
  have hleN2 := Lib.hid hleV
  have h24N := Lib.hid (h24'.out.le hleZ)
  clear h24'
  have h24' := h24N
  clear h24N
  have h25N := Lib.hid (h25'.out.le hleZ)
  clear h25'
  have h25' := h25N
  clear h25N
  clear hres hle1 hleX hleV hleY hleZ hcall'
  have h26' := Lib.hid h26
  clear h26
  have hcall := pf_n_Around p q W2 hp0'.out hp1'.out hq0'.out hq1'.out
  rw [eC'.out] at hcall
  have hcall' := Lib.hid hcall
  clear hcall
  go_wp2_with (fail)
  clear hW2
  go_at_call 17
  refine hcall'.out.mono ?_
  rintro e X3 ⟨hle1, v1, cc, rfl, hres⟩
  obtain ⟨r3s1, r3A1, r3n1, r3c1, r3t1, r3B1, r3m1, r3d1, r3s2, r3A2, r3n2, r3c2, r3t2, r3B2, r3m2, r3d2, rfl⟩ := hres.form
  obtain rfl := hres.code
  have hleX := hleN2.out.trans hle1
  obtain ⟨W3, hW3, hleV, hleY, h27⟩ := RBT.make hleX hres
  have hleZ := hle1.trans hleY
  have hleN3 := Lib.hid hleV
  have h24N := Lib.hid (h24'.out.le hleZ)
  clear h24'
  have h24' := h24N
  clear h24N
  have h25N := Lib.hid (h25'.out.le hleZ)
  clear h25'
  have h25' := h25N
  clear h25N
  have h26N := Lib.hid (h26'.out.le hleZ)
  clear h26'
  have h26' := h26N
  clear h26N
  clear hres hle1 hleX hleV hleY hleZ hcall'
  have h27' := Lib.hid h27
  clear h27
  go_upto_region 14 with (fail)
  exact next'.out _ _ _ _ _ _ (frame_mkN _ _ (by kernel_rfl)) hleN3.out h24'.out h25'.out h26'.out h27'.out _ (by assumption)
end Go.Proofs.YtpjmbgfggonhhaaGreat
namespace Go.Proofs.YtpjmbgfggonhhaaGreat
open Go.RowKit Go.Shelf
set_option linter.unusedVariables false
set_option linter.unusedSimpArgs false
set_option maxRecDepth 1000000 in
set_option maxHeartbeats 8000000 in
theorem tx_from14 (w : World) (x : FracA × FracA) (n : Int) (rN : Except Int Rat) (rC rP : Except Int G2) (k5 j24 j25 j26 j27 : Nat) (V W : World) (h5 : ABox V k5 x) (hwV : Below w.heap.size w V) (hle : Le V W) (eP : powG x n = rP) (h24 : RBQ V W j24 rN) (h25 : RBQ V W j25 rN) (h26 : RBT V W j26 rC) (h27 : RBT V W j27 rC)
    (t : Array Value) (ht : ∃ u : Nat → Value, t = #[(u 0), (u 1), .int .i64 n, (u 3), (u 4), .pointer (some ⟨k5, 0, none⟩), (u 6), (u 7), (u 8), (u 9), (u 10), (u 11), .int .i64 (codeR rN), (u 13), .int .i64 (codeR rN), (u 15), .int .i64 (codeT rC), (u 17), .int .i64 (codeT rC), (u 19), (u 20), (u 21), (u 22), .bool true, .pointer (some ⟨j24, 0, none⟩), .pointer (some ⟨j25, 0, none⟩), .pointer (some ⟨j26, 0, none⟩), .pointer (some ⟨j27, 0, none⟩), (u 28), (u 29), (u 30), (u 31), (u 32), (u 33), (u 34), (u 35), (u 36), (u 37), (u 38), (u 39), (u 40), (u 41), (u 42), (u 43), (u 44), (u 45), (u 46), (u 47), (u 48), (u 49), (u 50), (u 51), (u 52), (u 53), (u 54), (u 55), (u 56), (u 57), (u 58), (u 59), (u 60), (u 61), (u 62), (u 63), (u 64), (u 65), (u 66), (u 67), (u 68), (u 69), (u 70), (u 71), (u 72), (u 73), (u 74), (u 75), (u 76), (u 77), (u 78), (u 79), (u 80), (u 81), (u 82), (u 83), (u 84), (u 85), (u 86), (u 87), (u 88), (u 89), (u 90), (u 91), (u 92), (u 93), (u 94), (u 95), (u 96), (u 97), (u 98), (u 99), (u 100), (u 101), (u 102), (u 103), (u 104), (u 105), (u 106), (u 107), (u 108), (u 109), (u 110), (u 111), (u 112), (u 113), (u 114), (u 115), (u 116), (u 117), (u 118), (u 119), (u 120), (u 121), (u 122), (u 123), (u 124), (u 125), (u 126), (u 127), (u 128), (u 129), (u 130), (u 131), (u 132), (u 133), (u 134), (u 135), (u 136), (u 137), (u 138), (u 139), (u 140), (u 141), (u 142), (u 143), (u 144), (u 145), (u 146), (u 147), (u 148), (u 149), (u 150), (u 151), (u 152), (u 153), (u 154), (u 155), (u 156), (u 157), (u 158), (u 159), (u 160), (u 161), (u 162), (u 163), (u 164), (u 165), (u 166), (u 167), (u 168), (u 169), (u 170), (u 171), (u 172), (u 173), (u 174), (u 175)]) : TxFrom 14 w t W := by
  intro K hK
  obtain ⟨u, rfl⟩ := ht
  obtain ⟨x1A, x1c, x1B, x1d, x2A, x2c, x2B, x2d, g5, i51, i52⟩ := h5
  obtain ⟨-, b24s1, b24A1, b24n1, b24c1, b24t1, b24B1, b24m1, b24d1, q24, p24⟩ := h24
  have z24 := p24.isA
  obtain ⟨-, b25s1, b25A1, b25n1, b25c1, b25t1, b25B1, b25m1, b25d1, q25, p25⟩ := h25
  have z25 := p25.isA
  obtain ⟨-, b26s1, b26A1, b26n1, b26c1, b26t1, b26B1, b26m1, b26d1, b26s2, b26A2, b26n2, b26c2, b26t2, b26B2, b26m2, b26d2, q26, p26⟩ := h26
  have z26 := p26.isA
  obtain ⟨-, b27s1, b27A1, b27n1, b27c1, b27t1, b27B1, b27m1, b27d1, b27s2, b27A2, b27n2, b27c2, b27t2, b27B2, b27m2, b27d2, q27, p27⟩ := h27
  have z27 := p27.isA
  conv => arg 2; whnf
  have hcall := pf_n_SameFrac _ _ (resA rN) (resA rN) _ _ W z24 z25
  rw [sameF_self] at hcall
  obtain ⟨a0, a1, a2, a3⟩ := cells4 q24
  obtain ⟨b0, b1, b2, b3⟩ := cells4 q25
  have g5' := Lib.hid g5
  have i51' := Lib.hid i51
  have i52' := Lib.hid i52
  have hwV' := Lib.hid hwV
  have eP' := Lib.hid eP
  have hle' := Lib.hid hle
  have hcall' := Lib.hid hcall
  have q24' := Lib.hid q24
  have p24' := Lib.hid p24
  have z24' := Lib.hid z24
  have q25' := Lib.hid q25
  have p25' := Lib.hid p25
  have z25' := Lib.hid z25
  have q26' := Lib.hid q26
  have p26' := Lib.hid p26
  have z26' := Lib.hid z26
  have q27' := Lib.hid q27
  have p27' := Lib.hid p27
  have z27' := Lib.hid z27
  clear z27 p27 q27 z26 p26 q26 z25 p25 q25 z24 p24 q24 hcall hle eP hwV i52 i51 g5
  go_wp2_with (fail)
  go_at_call 18
  refine hcall'.out.mono ?_
  rintro e W1 ⟨rfl, hle1⟩
  clear a0 a1 a2 a3 b0 b1 b2 b3 hcall'
  have hcall := pf_n_SameTurn (resTA rC) (resTA rC) _ _ W1 (z26'.out.le hle1) (z27'.out.le hle1)
  rw [sameT_self] at hcall
  obtain ⟨a0, a1, a2, a3, a4, a5, a6, a7⟩ := cells8 (box_later hle1 q26'.out)
  obtain ⟨b0, b1, b2, b3, b4, b5, b6, b7⟩ := cells8 (box_later hle1 q27'.out)
  have hcall' := Lib.hid hcall
  have hle1' := Lib.hid hle1
  clear hle1 hcall
  go_wp2_with (fail)
  go_at_call 13
  refine hcall'.out.mono ?_
  rintro e W2 ⟨rfl, hle2⟩
  clear a0 a1 a2 a3 a4 a5 a6 a7 b0 b1 b2 b3 b4 b5 b6 b7 hcall'
  have hle := (hle'.out.trans hle1'.out).trans hle2
  clear hle2 hle' hle1' q24' q25' q26' q27' p24' p25' p26' p27' z24' z25' z26' z27'
  have hgr := pf_n_GreatTurn x 2 _ W2 (by decide) (IsTurnA.mk (i51'.out.le hle) (i52'.out.le hle))
  rw [show ((2 : Nat) : Int) = 2 from rfl] at hgr
  obtain ⟨a0, a1, a2, a3, a4, a5, a6, a7⟩ := cells8 (box_later hle g5'.out)
  have hle' := Lib.hid hle
  have hgr' := Lib.hid hgr
  clear hgr hle
  go_wp2_with (fail)
  conv => arg 2; whnf
  go_wp2_with (fail)
  go_at_call 4
  refine hgr'.out.mono ?_
  rintro e Y1 ⟨rfl, hle1⟩
  have hleA := hle'.out.trans hle1
  clear a0 a1 a2 a3 a4 a5 a6 a7
  by_cases hgt : greatT x 2 = true
  · rw [hgt]
    have hend := hwV'.out.trans (Below.mono hleA hwV'.out.size)
    have hleA' := Lib.hid hleA
    have hle1' := Lib.hid hle1
    have hend' := Lib.hid hend
    clear hend hle1 hleA
    go_wp2
    go_ret
    exact ⟨rfl, hend'.out⟩
  replace hgt : greatT x 2 = false := by simpa using hgt
  rw [hgt]
  have hleA' := Lib.hid hleA
  have hle1' := Lib.hid hle1
  have hgt' := Lib.hid hgt
  clear hgt hle1 hleA
  have hcall := pf_Power x n _ Y1 (IsTurnA.mk (i51'.out.le hleA'.out) (i52'.out.le hleA'.out)) (fun r hr => great_tsz hgt'.out hr)
  rw [eP'.out] at hcall
  obtain ⟨a0, a1, a2, a3, a4, a5, a6, a7⟩ := cells8 (box_later hleA'.out g5'.out)
  have hcall' := Lib.hid hcall
  clear hcall
  go_wp2_with (fail)
  go_at_call 19
  refine hcall'.out.mono ?_
  rintro e X0 ⟨hle2, v1, cc, rfl, hres⟩
  obtain ⟨r0s1, r0A1, r0n1, r0c1, r0t1, r0B1, r0m1, r0d1, r0s2, r0A2, r0n2, r0c2, r0t2, r0B2, r0m2, r0d2, rfl⟩ := hres.form
  obtain rfl := hres.code
  have hleX := hleA'.out.trans hle2
  obtain ⟨Y2, hY2, hleV, hleY, h28⟩ := RBT.make hleX hres
  have hleN0 := Lib.hid hleV
  clear hres hle2 hleX hleV hleY hcall' a0 a1 a2 a3 a4 a5 a6 a7
  have h28' := Lib.hid h28
  clear h28
  have hcall := pf_n_Power x n _ Y2 (IsTurnA.mk (i51'.out.le hleN0.out) (i52'.out.le hleN0.out)) (fun r hr => great_tsz hgt'.out hr)
  rw [eP'.out] at hcall
  obtain ⟨a0, a1, a2, a3, a4, a5, a6, a7⟩ := cells8 (box_later hleN0.out g5'.out)
  have hcall' := Lib.hid hcall
  clear hcall
  go_wp2_with (fail)
  clear hY2
  go_at_call 20
  refine hcall'.out.mono ?_
  rintro e X1 ⟨hle2, v1, cc, rfl, hres⟩
  obtain ⟨r1s1, r1A1, r1n1, r1c1, r1t1, r1B1, r1m1, r1d1, r1s2, r1A2, r1n2, r1c2, r1t2, r1B2, r1m2, r1d2, rfl⟩ := hres.form
  obtain rfl := hres.code
  have hleX := hleN0.out.trans hle2
  obtain ⟨W3, hW3, hleV, hleY, h29⟩ := RBT.make hleX hres
  have hleN1 := Lib.hid hleV
  have h28b := h28'.out.le (hle2.trans hleY)
  clear hres hle2 hleX hleV hleY hcall' a0 a1 a2 a3 a4 a5 a6 a7 h28'
  obtain ⟨-, b28s1, b28A1, b28n1, b28c1, b28t1, b28B1, b28m1, b28d1, b28s2, b28A2, b28n2, b28c2, b28t2, b28B2, b28m2, b28d2, q28, p28⟩ := h28b
  obtain ⟨-, b29s1, b29A1, b29n1, b29c1, b29t1, b29B1, b29m1, b29d1, b29s2, b29A2, b29n2, b29c2, b29t2, b29B2, b29m2, b29d2, q29, p29⟩ := h29
  have hcall := pf_n_SameTurn (resTA rP) (resTA rP) _ _ W3 p28.isA p29.isA
  rw [sameT_self] at hcall
  obtain ⟨a0, a1, a2, a3, a4, a5, a6, a7⟩ := cells8 q28
  obtain ⟨b0, b1, b2, b3, b4, b5, b6, b7⟩ := cells8 q29
  have hcall' := Lib.hid hcall
  have q28' := Lib.hid q28
  have q29' := Lib.hid q29
  have p28' := Lib.hid p28
  have p29' := Lib.hid p29
  clear p29 p28 q29 q28 hcall
  go_wp2_with (fail)
  clear hW3
  go_at_call 13
  refine hcall'.out.mono ?_
  rintro e W4 ⟨rfl, hle2⟩
  have hend := hwV'.out.trans (Below.mono (hleN1.out.trans hle2) hwV'.out.size)
  have hle2' := Lib.hid hle2
  have hend' := Lib.hid hend
  clear hend hle2
  go_wp2
  go_ret
  exact ⟨rfl, hend'.out⟩
end Go.Proofs.YtpjmbgfggonhhaaGreat
