/- law 1, ExactFracs: what the parts of the walk share. law 1, ExactFracs: regions 11 to 14. law 1, ExactFracs: regions 15 to 18. law 1, ExactFracs: region 19. law 1, ExactFracs: regions 20 to 24. law 1, ExactFracs: regions 4 to 9. -/
import Derived.Test.YtemdemfknnkcaaaLaw1
namespace Go.Proofs.Ytemdemfknnkcaaa
open Go.RowKit Go.Shelf
set_option linter.unusedVariables false
set_option linter.unusedSimpArgs false
theorem box_to {V W : World} {k : Nat} {o : Obj} (hle : Le V W) (h : V.heap[k]? = some o) : W.heap[k]? = some o := (hle.block k (Array.getElem?_eq_some_iff.1 h).1).trans h
/-- The four boxes of the law, in the world V in which they were filled. -/
structure VF (V : World) (k4 k5 k9 k10 : Nat) (va vb vx vy : Value) (x y : FracA) : Prop where
  a : FBox V k4 va x
  b : FBox V k5 vb y
  x : FBox V k9 vx x
  y : FBox V k10 vy y
/-- A box that holds what an operation answered. -/
def RB (V W : World) (j : Nat) (res : Except Int Rat) : Prop := V.heap.size ≤ j ∧ ∃ s A n c s' B m d, W.heap[j]? = some (.cells #[.bool s, .slice A n c, .bool s', .slice B m d] 26) ∧ IsRes (fun b => V.heap.size ≤ b) W (.agg #[.bool s, .slice A n c, .bool s', .slice B m d]) (codeR res) res
theorem RB.le {V W W' : World} {j : Nat} {res : Except Int Rat} (h : RB V W j res) (hb : Le W W') : RB V W' j res := by
  obtain ⟨h1, s, A, n, c, s', B, m, d, h2, h3⟩ := h
  exact ⟨h1, s, A, n, c, s', B, m, d, box_to hb h2, h3.le hb⟩
theorem RB.make {V W1 : World} {s s' : Bool} {A B : Option Addr} {n c m d : Nat} {cc : Int} {res : Except Int Rat} (hle : Le V W1) (h : IsRes (fun b => V.heap.size ≤ b) W1 (.agg #[.bool s, .slice A n c, .bool s', .slice B m d]) cc res) :
    ∃ W2, W1.alloc (.cells #[.bool s, .slice A n c, .bool s', .slice B m d] 26) = W2 ∧ Le V W2 ∧ Le W1 W2 ∧ RB V W2 W1.heap.size res := by
  have hc := h.code
  subst hc
  exact ⟨_, rfl, hle.trans (le_alloc _ _), le_alloc _ _, hle.size, _, _, _, _, _, _, _, _, by unfold World.alloc; exact Array.getElem?_push_size, h.le (le_alloc _ _)⟩
/-- What an answer reads as. -/
noncomputable def resF : Except Int Rat → FracA
  | .ok r => ⟨rneg r, dg (rnum r), false, dg r.den⟩
  | .error _ => ⟨false, [], false, []⟩
theorem FracL.fracA {L : Nat → Prop} {w : World} {v : Value} {r : Rat} (h : FracL L w v r) : IsFracA L w v ⟨rneg r, dg (rnum r), false, dg r.den⟩ := by
  obtain ⟨A, c, B, d, rfl, h1, h2⟩ := h
  exact ⟨A, c, B, d, rfl, h1.1, h2.1⟩
theorem IsRes.fracA {L : Nat → Prop} {w : World} {v : Value} {c : Int} {res : Except Int Rat} (h : IsRes L w v c res) : IsFracA L w v (resF res) := by
  cases res with
  | ok r => exact h.1.fracA
  | error x =>
    obtain ⟨rfl, -⟩ := h
    exact ⟨none, 0, none, 0, rfl, ⟨none, 0, rfl, Nat.le_refl _, by decide, by decide, fun h => absurd h (Nat.lt_irrefl 0)⟩, ⟨none, 0, rfl, Nat.le_refl _, by decide, by decide, fun h => absurd h (Nat.lt_irrefl 0)⟩⟩
/-- An answer is short enough to be wiped. -/
def ROk (res : Except Int Rat) : Prop := ∀ r, res = .ok r → Rsz r 40
theorem outR_rok (r : Rat) : ROk (outR r) := fun q h => by
  by_cases hs : Rsz r 40
  · rw [outR_ok hs] at h
    injection h with h
    subst h
    exact hs
  · rw [outR_no hs] at h
    cases h
theorem opR_rok {f : Rat → Rat → Except Int Rat} {x y : FracA} (hf : ∀ a b, ROk (f a b)) : ROk (opR f x y) := fun q h => by
  unfold opR at h
  split at h
  · exact hf _ _ q h
  · cases h
theorem divE_rok (a b : Rat) : ROk (divE a b) := fun q h => by
  unfold divE at h
  split at h
  · cases h
  · exact outR_rok _ q h
theorem RB.era {V W : World} {j : Nat} {res : Except Int Rat} {s s' : Bool} {A B : Option Addr} {n c m d : Nat} (h : IsRes (fun b => V.heap.size ≤ b) W (.agg #[.bool s, .slice A n c, .bool s', .slice B m d]) (codeR res) res) (hr : ROk res) : EraF W V.heap.size (.agg #[.bool s, .slice A n c, .bool s', .slice B m d]) := h.era (fun b hb => hb) hr
def seqLE : Code → Code
  | .seq a _ => a
  | c => c
def seqRE : Code → Code
  | .seq _ b => b
  | c => c
noncomputable def exTail (k : Nat) : Code := (fromRegionN k ((Try.f3).body.getD .skip)).getD 0 .skip
def ExPost (w : World) (e : Ending) (w' : World) : Prop := e = .returned (.bool true) ∧ Below w.heap.size w w'
/-- From region k on the law answers true: as the walk finds it. -/
def ExFrom (k : Nat) (w : World) (t : Array Value) (W : World) : Prop := ∀ K : Act → World → Prop, (∀ a w1, (seqRE (exTail k)).wp Try.prog (bodyPost Try.prog Try.f3 (ExPost w)) a w1 → K a w1) →
  (seqLE (exTail k)).wp Try.prog (Exit.then K (bodyPost Try.prog Try.f3 (ExPost w))) { tmps := t, defers := [] } W
end Go.Proofs.Ytemdemfknnkcaaa
namespace Go.Proofs.Ytemdemfknnkcaaa
open Go.RowKit Go.Shelf
set_option linter.unusedVariables false
set_option linter.unusedSimpArgs false
set_option maxRecDepth 1000000 in
set_option maxHeartbeats 4000000 in
theorem ex_from11 (w : World) (x y : FracA) (va vb vx vy : Value) (r24 r26 r28 r30 : Except Int Rat) (k4 k5 k9 k10 : Nat) (V W : World) (hV : VF V k4 k5 k9 k10 va vb vx vy x y) (hwV : Below w.heap.size w V) (hle : Le V W) (e24 : opR (fun a b => outR (a + b)) x y = r24) (e26 : opR (fun a b => outR (a - b)) x y = r26) (e28 : opR (fun a b => outR (a * b)) x y = r28) (e30 : opR divE x y = r30)
    (next : ∀ (j24 j25 j26 j27 : Nat) (W : World) (t : Array Value), (∃ u : Nat → Value, t = #[(u 0), (u 1), (u 2), (u 3), .pointer (some ⟨k4, 0, none⟩), .pointer (some ⟨k5, 0, none⟩), (u 6), (u 7), (u 8), .pointer (some ⟨k9, 0, none⟩), .pointer (some ⟨k10, 0, none⟩), (u 11), .int .i64 (codeR r24), (u 13), .int .i64 (codeR r24), (u 15), .int .i64 (codeR r26), (u 17), .int .i64 (codeR r26), (u 19), (u 20), (u 21), (u 22), .bool true, .pointer (some ⟨j24, 0, none⟩), .pointer (some ⟨j25, 0, none⟩), .pointer (some ⟨j26, 0, none⟩), .pointer (some ⟨j27, 0, none⟩), (u 28), (u 29), (u 30), (u 31), (u 32), (u 33), (u 34), (u 35), (u 36), (u 37), (u 38), (u 39), (u 40), (u 41), (u 42), (u 43), (u 44), (u 45), (u 46), (u 47), (u 48), (u 49), (u 50), (u 51), (u 52), (u 53), (u 54), (u 55), (u 56), (u 57), (u 58), (u 59), (u 60), (u 61), (u 62), (u 63), (u 64), (u 65), (u 66), (u 67), (u 68), (u 69), (u 70), (u 71), (u 72), (u 73), (u 74), (u 75), (u 76), (u 77), (u 78), (u 79), (u 80), (u 81), (u 82), (u 83), (u 84), (u 85), (u 86), (u 87), (u 88), (u 89), (u 90), (u 91), (u 92), (u 93), (u 94), (u 95), (u 96), (u 97), (u 98), (u 99), (u 100), (u 101), (u 102), (u 103), (u 104), (u 105), (u 106), (u 107), (u 108), (u 109), (u 110), (u 111), (u 112), (u 113), (u 114), (u 115), (u 116), (u 117), (u 118), (u 119), (u 120), (u 121), (u 122), (u 123), (u 124), (u 125), (u 126), (u 127), (u 128), (u 129), (u 130), (u 131), (u 132), (u 133), (u 134), (u 135), (u 136), (u 137), (u 138), (u 139), (u 140), (u 141), (u 142), (u 143), (u 144), (u 145), (u 146), (u 147), (u 148), (u 149), (u 150), (u 151), (u 152), (u 153), (u 154), (u 155), (u 156), (u 157), (u 158), (u 159), (u 160), (u 161), (u 162), (u 163), (u 164), (u 165), (u 166), (u 167), (u 168), (u 169), (u 170), (u 171), (u 172), (u 173), (u 174), (u 175), (u 176), (u 177), (u 178), (u 179), (u 180), (u 181), (u 182), (u 183), (u 184), (u 185), (u 186), (u 187), (u 188), (u 189), (u 190), (u 191), (u 192), (u 193), (u 194), (u 195), (u 196), (u 197), (u 198), (u 199), (u 200), (u 201), (u 202), (u 203), (u 204), (u 205), (u 206), (u 207), (u 208), (u 209), (u 210), (u 211), (u 212), (u 213), (u 214), (u 215), (u 216), (u 217), (u 218), (u 219), (u 220), (u 221), (u 222), (u 223), (u 224), (u 225), (u 226), (u 227)]) → Le V W → RB V W j24 r24 → RB V W j25 r24 → RB V W j26 r26 → RB V W j27 r26 → ExFrom 15 w t W)
    (t : Array Value) (ht : ∃ u : Nat → Value, t = #[(u 0), (u 1), (u 2), (u 3), .pointer (some ⟨k4, 0, none⟩), .pointer (some ⟨k5, 0, none⟩), (u 6), (u 7), (u 8), .pointer (some ⟨k9, 0, none⟩), .pointer (some ⟨k10, 0, none⟩), (u 11), (u 12), (u 13), (u 14), (u 15), (u 16), (u 17), (u 18), (u 19), (u 20), (u 21), (u 22), .bool true, (u 24), (u 25), (u 26), (u 27), (u 28), (u 29), (u 30), (u 31), (u 32), (u 33), (u 34), (u 35), (u 36), (u 37), (u 38), (u 39), (u 40), (u 41), (u 42), (u 43), (u 44), (u 45), (u 46), (u 47), (u 48), (u 49), (u 50), (u 51), (u 52), (u 53), (u 54), (u 55), (u 56), (u 57), (u 58), (u 59), (u 60), (u 61), (u 62), (u 63), (u 64), (u 65), (u 66), (u 67), (u 68), (u 69), (u 70), (u 71), (u 72), (u 73), (u 74), (u 75), (u 76), (u 77), (u 78), (u 79), (u 80), (u 81), (u 82), (u 83), (u 84), (u 85), (u 86), (u 87), (u 88), (u 89), (u 90), (u 91), (u 92), (u 93), (u 94), (u 95), (u 96), (u 97), (u 98), (u 99), (u 100), (u 101), (u 102), (u 103), (u 104), (u 105), (u 106), (u 107), (u 108), (u 109), (u 110), (u 111), (u 112), (u 113), (u 114), (u 115), (u 116), (u 117), (u 118), (u 119), (u 120), (u 121), (u 122), (u 123), (u 124), (u 125), (u 126), (u 127), (u 128), (u 129), (u 130), (u 131), (u 132), (u 133), (u 134), (u 135), (u 136), (u 137), (u 138), (u 139), (u 140), (u 141), (u 142), (u 143), (u 144), (u 145), (u 146), (u 147), (u 148), (u 149), (u 150), (u 151), (u 152), (u 153), (u 154), (u 155), (u 156), (u 157), (u 158), (u 159), (u 160), (u 161), (u 162), (u 163), (u 164), (u 165), (u 166), (u 167), (u 168), (u 169), (u 170), (u 171), (u 172), (u 173), (u 174), (u 175), (u 176), (u 177), (u 178), (u 179), (u 180), (u 181), (u 182), (u 183), (u 184), (u 185), (u 186), (u 187), (u 188), (u 189), (u 190), (u 191), (u 192), (u 193), (u 194), (u 195), (u 196), (u 197), (u 198), (u 199), (u 200), (u 201), (u 202), (u 203), (u 204), (u 205), (u 206), (u 207), (u 208), (u 209), (u 210), (u 211), (u 212), (u 213), (u 214), (u 215), (u 216), (u 217), (u 218), (u 219), (u 220), (u 221), (u 222), (u 223), (u 224), (u 225), (u 226), (u 227)]) : ExFrom 11 w t W := by
  intro K hK
  obtain ⟨u, rfl⟩ := ht
  obtain ⟨A4, c4, B4, d4, rfl, g4, i4⟩ := hV.a
  obtain ⟨A5, c5, B5, d5, rfl, g5, i5⟩ := hV.b
  obtain ⟨A9, c9, B9, d9, rfl, g9, i9⟩ := hV.x
  obtain ⟨A10, c10, B10, d10, rfl, g10, i10⟩ := hV.y
  have hUp : ∀ W', Le V W' → Up W' (fun b => V.heap.size ≤ b) := fun W' h b hb => Nat.le_trans h.size hb
  conv => arg 2; whnf
  have hcall11 := pf_Add (fun b => V.heap.size ≤ b) x y _ _ W (hUp _ hle) (i9.le hle) (i10.le hle)
  rw [e24] at hcall11
  obtain ⟨a0, a1, a2, a3⟩ := cells4 (box_to hle g9)
  obtain ⟨b0, b1, b2, b3⟩ := cells4 (box_to hle g10)
  have hUp' := Lib.hid hUp
  clear hUp
  have hV' := Lib.hid hV
  have hwV' := Lib.hid hwV
  have hle' := Lib.hid hle
  have next' := Lib.hid next
  have g4' := Lib.hid g4
  have g5' := Lib.hid g5
  have g9' := Lib.hid g9
  have g10' := Lib.hid g10
  have i4' := Lib.hid i4
  have i5' := Lib.hid i5
  have i9' := Lib.hid i9
  have i10' := Lib.hid i10
  have e24' := Lib.hid e24
  have e26' := Lib.hid e26
  have e28' := Lib.hid e28
  have e30' := Lib.hid e30
  have hcall11' := Lib.hid hcall11
  clear hcall11 e30 e28 e26 e24 i10 i9 i5 i4 g10 g9 g5 g4 next hle hwV hV
  go_wp2_with (fail)
  go_at_call 18
  refine hcall11'.out.mono ?_
  rintro e X11 ⟨hle1, v1, cc, rfl, hres⟩
  obtain ⟨s11, Ar11, nr11, cr11, st11, Br11, mr11, dr11, rfl⟩ := hres.form
  obtain rfl := hres.code
  have hleX := hle'.out.trans hle1
  obtain ⟨W11, hW11, hle11, hleY, h24⟩ := RB.make hleX hres
  have hleZ := hle1.trans hleY
  clear a0 a1 a2 a3 b0 b1 b2 b3 hres hle1 hleX hleY hleZ
  have hUp := hUp'.out
  have i4 := i4'.out
  have g4 := g4'.out
  have i5 := i5'.out
  have g5 := g5'.out
  have i9 := i9'.out
  have g9 := g9'.out
  have i10 := i10'.out
  have g10 := g10'.out
  have e24 := e24'.out
  have e26 := e26'.out
  have e28 := e28'.out
  have e30 := e30'.out
  have hcall12 := pf_n_Add (fun b => V.heap.size ≤ b) (fun _ => True) x y _ _ W11 (hUp _ hle11) (i4.le hle11) (i5.le hle11)
  rw [e24] at hcall12
  obtain ⟨a0, a1, a2, a3⟩ := cells4 (box_to hle11 g4)
  obtain ⟨b0, b1, b2, b3⟩ := cells4 (box_to hle11 g5)
  clear hUp i4 i5 i9 i10 g4 g5 g9 g10 e24 e26 e28 e30
  have hle11' := Lib.hid hle11
  have h24' := Lib.hid h24
  have hcall12' := Lib.hid hcall12
  clear hcall12 h24 hle11
  go_wp2_with (fail)
  conv => arg 2; whnf
  go_wp2_with (fail)
  clear hW11
  go_at_call 19
  refine hcall12'.out.mono ?_
  rintro e X12 ⟨hle1, v1, cc, rfl, hres⟩
  obtain ⟨s12, Ar12, nr12, cr12, st12, Br12, mr12, dr12, rfl⟩ := hres.form
  obtain rfl := hres.code
  have hleX := hle11'.out.trans hle1
  obtain ⟨W12, hW12, hle12, hleY, h25⟩ := RB.make hleX hres
  have hleZ := hle1.trans hleY
  have h24N := Lib.hid (h24'.out.le hleZ)
  clear h24'
  have h24' := h24N
  clear h24N
  clear a0 a1 a2 a3 b0 b1 b2 b3 hres hle1 hleX hleY hleZ
  have hUp := hUp'.out
  have i4 := i4'.out
  have g4 := g4'.out
  have i5 := i5'.out
  have g5 := g5'.out
  have i9 := i9'.out
  have g9 := g9'.out
  have i10 := i10'.out
  have g10 := g10'.out
  have e24 := e24'.out
  have e26 := e26'.out
  have e28 := e28'.out
  have e30 := e30'.out
  have hcall13 := pf_Sub (fun b => V.heap.size ≤ b) x y _ _ W12 (hUp _ hle12) (i9.le hle12) (i10.le hle12)
  rw [e26] at hcall13
  obtain ⟨a0, a1, a2, a3⟩ := cells4 (box_to hle12 g9)
  obtain ⟨b0, b1, b2, b3⟩ := cells4 (box_to hle12 g10)
  clear hUp i4 i5 i9 i10 g4 g5 g9 g10 e24 e26 e28 e30
  have hle12' := Lib.hid hle12
  have h25' := Lib.hid h25
  have hcall13' := Lib.hid hcall13
  clear hcall13 h25 hle12
  go_wp2_with (fail)
  clear hW12
  go_at_call 20
  refine hcall13'.out.mono ?_
  rintro e X13 ⟨hle1, v1, cc, rfl, hres⟩
  obtain ⟨s13, Ar13, nr13, cr13, st13, Br13, mr13, dr13, rfl⟩ := hres.form
  obtain rfl := hres.code
  have hleX := hle12'.out.trans hle1
  obtain ⟨W13, hW13, hle13, hleY, h26⟩ := RB.make hleX hres
  have hleZ := hle1.trans hleY
  have h24N := Lib.hid (h24'.out.le hleZ)
  clear h24'
  have h24' := h24N
  clear h24N
  have h25N := Lib.hid (h25'.out.le hleZ)
  clear h25'
  have h25' := h25N
  clear h25N
  clear a0 a1 a2 a3 b0 b1 b2 b3 hres hle1 hleX hleY hleZ
  have hUp := hUp'.out
  have i4 := i4'.out
  have g4 := g4'.out
  have i5 := i5'.out
  have g5 := g5'.out
  have i9 := i9'.out
  have g9 := g9'.out
  have i10 := i10'.out
  have g10 := g10'.out
  have e24 := e24'.out
  have e26 := e26'.out
  have e28 := e28'.out
  have e30 := e30'.out
  have hcall14 := pf_n_Sub (fun b => V.heap.size ≤ b) (fun _ => True) x y _ _ W13 (hUp _ hle13) (i4.le hle13) (i5.le hle13)
  rw [e26] at hcall14
  obtain ⟨a0, a1, a2, a3⟩ := cells4 (box_to hle13 g4)
  obtain ⟨b0, b1, b2, b3⟩ := cells4 (box_to hle13 g5)
  clear hUp i4 i5 i9 i10 g4 g5 g9 g10 e24 e26 e28 e30
  have hle13' := Lib.hid hle13
  have h26' := Lib.hid h26
  have hcall14' := Lib.hid hcall14
  clear hcall14 h26 hle13
  go_wp2_with (fail)
  clear hW13
  go_at_call 21
  refine hcall14'.out.mono ?_
  rintro e X14 ⟨hle1, v1, cc, rfl, hres⟩
  obtain ⟨s14, Ar14, nr14, cr14, st14, Br14, mr14, dr14, rfl⟩ := hres.form
  obtain rfl := hres.code
  have hleX := hle13'.out.trans hle1
  obtain ⟨W14, hW14, hle14, hleY, h27⟩ := RB.make hleX hres
  have hleZ := hle1.trans hleY
  have h24N := Lib.hid (h24'.out.le hleZ)
  clear h24'
  have h24' := h24N
  clear h24N
  have h25N := Lib.hid (h25'.out.le hleZ)
  clear h25'
  have h25' := h25N
  clear h25N
  have h26N := Lib.hid (h26'.out.le hleZ)
  clear h26'
  have h26' := h26N
  clear h26N
  clear a0 a1 a2 a3 b0 b1 b2 b3 hres hle1 hleX hleY hleZ
  have hle14' := Lib.hid hle14
  have h27' := Lib.hid h27
  clear h27 hle14
  go_upto_region 15 with (fail)
  exact next'.out _ _ _ _ _ _ (frame_mkN _ _ (by kernel_rfl)) hle14'.out h24'.out h25'.out h26'.out h27'.out _ (by assumption)
end Go.Proofs.Ytemdemfknnkcaaa
namespace Go.Proofs.Ytemdemfknnkcaaa
open Go.RowKit Go.Shelf
set_option linter.unusedVariables false
set_option linter.unusedSimpArgs false
set_option maxRecDepth 1000000 in
set_option maxHeartbeats 4000000 in
theorem ex_from15 (w : World) (x y : FracA) (va vb vx vy : Value) (r24 r26 r28 r30 : Except Int Rat) (k4 k5 k9 k10 j24 j25 j26 j27 : Nat) (V W : World) (hV : VF V k4 k5 k9 k10 va vb vx vy x y) (hwV : Below w.heap.size w V) (hle : Le V W) (h24 : RB V W j24 r24) (h25 : RB V W j25 r24) (h26 : RB V W j26 r26) (h27 : RB V W j27 r26) (e24 : opR (fun a b => outR (a + b)) x y = r24) (e26 : opR (fun a b => outR (a - b)) x y = r26) (e28 : opR (fun a b => outR (a * b)) x y = r28) (e30 : opR divE x y = r30)
    (next : ∀ (j24 j25 j26 j27 j28 j29 j30 j32 : Nat) (W : World) (t : Array Value), (∃ u : Nat → Value, t = #[(u 0), (u 1), (u 2), (u 3), .pointer (some ⟨k4, 0, none⟩), .pointer (some ⟨k5, 0, none⟩), (u 6), (u 7), (u 8), .pointer (some ⟨k9, 0, none⟩), .pointer (some ⟨k10, 0, none⟩), (u 11), .int .i64 (codeR r24), (u 13), .int .i64 (codeR r24), (u 15), .int .i64 (codeR r26), (u 17), .int .i64 (codeR r26), (u 19), .int .i64 (codeR r28), (u 21), .int .i64 (codeR r28), .bool true, .pointer (some ⟨j24, 0, none⟩), .pointer (some ⟨j25, 0, none⟩), .pointer (some ⟨j26, 0, none⟩), .pointer (some ⟨j27, 0, none⟩), .pointer (some ⟨j28, 0, none⟩), .pointer (some ⟨j29, 0, none⟩), .pointer (some ⟨j30, 0, none⟩), .int .i64 (codeR r30), .pointer (some ⟨j32, 0, none⟩), .int .i64 (codeR r30), (u 34), (u 35), (u 36), (u 37), (u 38), (u 39), (u 40), (u 41), (u 42), (u 43), (u 44), (u 45), (u 46), (u 47), (u 48), (u 49), (u 50), (u 51), (u 52), (u 53), (u 54), (u 55), (u 56), (u 57), (u 58), (u 59), (u 60), (u 61), (u 62), (u 63), (u 64), (u 65), (u 66), (u 67), (u 68), (u 69), (u 70), (u 71), (u 72), (u 73), (u 74), (u 75), (u 76), (u 77), (u 78), (u 79), (u 80), (u 81), (u 82), (u 83), (u 84), (u 85), (u 86), (u 87), (u 88), (u 89), (u 90), (u 91), (u 92), (u 93), (u 94), (u 95), (u 96), (u 97), (u 98), (u 99), (u 100), (u 101), (u 102), (u 103), (u 104), (u 105), (u 106), (u 107), (u 108), (u 109), (u 110), (u 111), (u 112), (u 113), (u 114), (u 115), (u 116), (u 117), (u 118), (u 119), (u 120), (u 121), (u 122), (u 123), (u 124), (u 125), (u 126), (u 127), (u 128), (u 129), (u 130), (u 131), (u 132), (u 133), (u 134), (u 135), (u 136), (u 137), (u 138), (u 139), (u 140), (u 141), (u 142), (u 143), (u 144), (u 145), (u 146), (u 147), (u 148), (u 149), (u 150), (u 151), (u 152), (u 153), (u 154), (u 155), (u 156), (u 157), (u 158), (u 159), (u 160), (u 161), (u 162), (u 163), (u 164), (u 165), (u 166), (u 167), (u 168), (u 169), (u 170), (u 171), (u 172), (u 173), (u 174), (u 175), (u 176), (u 177), (u 178), (u 179), (u 180), (u 181), (u 182), (u 183), (u 184), (u 185), (u 186), (u 187), (u 188), (u 189), (u 190), (u 191), (u 192), (u 193), (u 194), (u 195), (u 196), (u 197), (u 198), (u 199), (u 200), (u 201), (u 202), (u 203), (u 204), (u 205), (u 206), (u 207), (u 208), (u 209), (u 210), (u 211), (u 212), (u 213), (u 214), (u 215), (u 216), (u 217), (u 218), (u 219), (u 220), (u 221), (u 222), (u 223), (u 224), (u 225), (u 226), (u 227)]) → Le V W → RB V W j24 r24 → RB V W j25 r24 → RB V W j26 r26 → RB V W j27 r26 → RB V W j28 r28 → RB V W j29 r28 → RB V W j30 r30 → RB V W j32 r30 → ExFrom 19 w t W)
    (t : Array Value) (ht : ∃ u : Nat → Value, t = #[(u 0), (u 1), (u 2), (u 3), .pointer (some ⟨k4, 0, none⟩), .pointer (some ⟨k5, 0, none⟩), (u 6), (u 7), (u 8), .pointer (some ⟨k9, 0, none⟩), .pointer (some ⟨k10, 0, none⟩), (u 11), .int .i64 (codeR r24), (u 13), .int .i64 (codeR r24), (u 15), .int .i64 (codeR r26), (u 17), .int .i64 (codeR r26), (u 19), (u 20), (u 21), (u 22), .bool true, .pointer (some ⟨j24, 0, none⟩), .pointer (some ⟨j25, 0, none⟩), .pointer (some ⟨j26, 0, none⟩), .pointer (some ⟨j27, 0, none⟩), (u 28), (u 29), (u 30), (u 31), (u 32), (u 33), (u 34), (u 35), (u 36), (u 37), (u 38), (u 39), (u 40), (u 41), (u 42), (u 43), (u 44), (u 45), (u 46), (u 47), (u 48), (u 49), (u 50), (u 51), (u 52), (u 53), (u 54), (u 55), (u 56), (u 57), (u 58), (u 59), (u 60), (u 61), (u 62), (u 63), (u 64), (u 65), (u 66), (u 67), (u 68), (u 69), (u 70), (u 71), (u 72), (u 73), (u 74), (u 75), (u 76), (u 77), (u 78), (u 79), (u 80), (u 81), (u 82), (u 83), (u 84), (u 85), (u 86), (u 87), (u 88), (u 89), (u 90), (u 91), (u 92), (u 93), (u 94), (u 95), (u 96), (u 97), (u 98), (u 99), (u 100), (u 101), (u 102), (u 103), (u 104), (u 105), (u 106), (u 107), (u 108), (u 109), (u 110), (u 111), (u 112), (u 113), (u 114), (u 115), (u 116), (u 117), (u 118), (u 119), (u 120), (u 121), (u 122), (u 123), (u 124), (u 125), (u 126), (u 127), (u 128), (u 129), (u 130), (u 131), (u 132), (u 133), (u 134), (u 135), (u 136), (u 137), (u 138), (u 139), (u 140), (u 141), (u 142), (u 143), (u 144), (u 145), (u 146), (u 147), (u 148), (u 149), (u 150), (u 151), (u 152), (u 153), (u 154), (u 155), (u 156), (u 157), (u 158), (u 159), (u 160), (u 161), (u 162), (u 163), (u 164), (u 165), (u 166), (u 167), (u 168), (u 169), (u 170), (u 171), (u 172), (u 173), (u 174), (u 175), (u 176), (u 177), (u 178), (u 179), (u 180), (u 181), (u 182), (u 183), (u 184), (u 185), (u 186), (u 187), (u 188), (u 189), (u 190), (u 191), (u 192), (u 193), (u 194), (u 195), (u 196), (u 197), (u 198), (u 199), (u 200), (u 201), (u 202), (u 203), (u 204), (u 205), (u 206), (u 207), (u 208), (u 209), (u 210), (u 211), (u 212), (u 213), (u 214), (u 215), (u 216), (u 217), (u 218), (u 219), (u 220), (u 221), (u 222), (u 223), (u 224), (u 225), (u 226), (u 227)]) : ExFrom 15 w t W := by
  intro K hK
  obtain ⟨u, rfl⟩ := ht
  obtain ⟨A4, c4, B4, d4, rfl, g4, i4⟩ := hV.a
  obtain ⟨A5, c5, B5, d5, rfl, g5, i5⟩ := hV.b
  obtain ⟨A9, c9, B9, d9, rfl, g9, i9⟩ := hV.x
  obtain ⟨A10, c10, B10, d10, rfl, g10, i10⟩ := hV.y
  have hUp : ∀ W', Le V W' → Up W' (fun b => V.heap.size ≤ b) := fun W' h b hb => Nat.le_trans h.size hb
  conv => arg 2; whnf
  have hcall15 := pf_Mul (fun b => V.heap.size ≤ b) x y _ _ W (hUp _ hle) (i9.le hle) (i10.le hle)
  rw [e28] at hcall15
  obtain ⟨a0, a1, a2, a3⟩ := cells4 (box_to hle g9)
  obtain ⟨b0, b1, b2, b3⟩ := cells4 (box_to hle g10)
  have hUp' := Lib.hid hUp
  clear hUp
  have hV' := Lib.hid hV
  have hwV' := Lib.hid hwV
  have hle' := Lib.hid hle
  have next' := Lib.hid next
  have g4' := Lib.hid g4
  have g5' := Lib.hid g5
  have g9' := Lib.hid g9
  have g10' := Lib.hid g10
  have i4' := Lib.hid i4
  have i5' := Lib.hid i5
  have i9' := Lib.hid i9
  have i10' := Lib.hid i10
  have e24' := Lib.hid e24
  have e26' := Lib.hid e26
  have e28' := Lib.hid e28
  have e30' := Lib.hid e30
  have hcall15' := Lib.hid hcall15
  have h24' := Lib.hid h24
  have h25' := Lib.hid h25
  have h26' := Lib.hid h26
  have h27' := Lib.hid h27
  clear h27 h26 h25 h24 hcall15 e30 e28 e26 e24 i10 i9 i5 i4 g10 g9 g5 g4 next hle hwV hV
  go_wp2_with (fail)
  go_at_call 22
  refine hcall15'.out.mono ?_
  rintro e X15 ⟨hle1, v1, cc, rfl, hres⟩
  obtain ⟨s15, Ar15, nr15, cr15, st15, Br15, mr15, dr15, rfl⟩ := hres.form
  obtain rfl := hres.code
  have hleX := hle'.out.trans hle1
  obtain ⟨W15, hW15, hle15, hleY, h28⟩ := RB.make hleX hres
  have hleZ := hle1.trans hleY
  have h24N := Lib.hid (h24'.out.le hleZ)
  clear h24'
  have h24' := h24N
  clear h24N
  have h25N := Lib.hid (h25'.out.le hleZ)
  clear h25'
  have h25' := h25N
  clear h25N
  have h26N := Lib.hid (h26'.out.le hleZ)
  clear h26'
  have h26' := h26N
  clear h26N
  have h27N := Lib.hid (h27'.out.le hleZ)
  clear h27'
  have h27' := h27N
  clear h27N
  clear a0 a1 a2 a3 b0 b1 b2 b3 hres hle1 hleX hleY hleZ
  have hUp := hUp'.out
  have i4 := i4'.out
  have g4 := g4'.out
  have i5 := i5'.out
  have g5 := g5'.out
  have i9 := i9'.out
  have g9 := g9'.out
  have i10 := i10'.out
  have g10 := g10'.out
  have e24 := e24'.out
  have e26 := e26'.out
  have e28 := e28'.out
  have e30 := e30'.out
  have hcall16 := pf_n_Mul (fun b => V.heap.size ≤ b) (fun _ => True) x y _ _ W15 (hUp _ hle15) (i4.le hle15) (i5.le hle15)
  rw [e28] at hcall16
  obtain ⟨a0, a1, a2, a3⟩ := cells4 (box_to hle15 g4)
  obtain ⟨b0, b1, b2, b3⟩ := cells4 (box_to hle15 g5)
  clear hUp i4 i5 i9 i10 g4 g5 g9 g10 e24 e26 e28 e30
  have hle15' := Lib.hid hle15
  have h28' := Lib.hid h28
  have hcall16' := Lib.hid hcall16
  clear hcall16 h28 hle15
  go_wp2_with (fail)
  conv => arg 2; whnf
  go_wp2_with (fail)
  clear hW15
  go_at_call 23
  refine hcall16'.out.mono ?_
  rintro e X16 ⟨hle1, v1, cc, rfl, hres⟩
  obtain ⟨s16, Ar16, nr16, cr16, st16, Br16, mr16, dr16, rfl⟩ := hres.form
  obtain rfl := hres.code
  have hleX := hle15'.out.trans hle1
  obtain ⟨W16, hW16, hle16, hleY, h29⟩ := RB.make hleX hres
  have hleZ := hle1.trans hleY
  have h24N := Lib.hid (h24'.out.le hleZ)
  clear h24'
  have h24' := h24N
  clear h24N
  have h25N := Lib.hid (h25'.out.le hleZ)
  clear h25'
  have h25' := h25N
  clear h25N
  have h26N := Lib.hid (h26'.out.le hleZ)
  clear h26'
  have h26' := h26N
  clear h26N
  have h27N := Lib.hid (h27'.out.le hleZ)
  clear h27'
  have h27' := h27N
  clear h27N
  have h28N := Lib.hid (h28'.out.le hleZ)
  clear h28'
  have h28' := h28N
  clear h28N
  clear a0 a1 a2 a3 b0 b1 b2 b3 hres hle1 hleX hleY hleZ
  have hUp := hUp'.out
  have i4 := i4'.out
  have g4 := g4'.out
  have i5 := i5'.out
  have g5 := g5'.out
  have i9 := i9'.out
  have g9 := g9'.out
  have i10 := i10'.out
  have g10 := g10'.out
  have e24 := e24'.out
  have e26 := e26'.out
  have e28 := e28'.out
  have e30 := e30'.out
  have hcall17 := pf_Div (fun b => V.heap.size ≤ b) x y _ _ W16 (hUp _ hle16) (i9.le hle16) (i10.le hle16)
  rw [e30] at hcall17
  obtain ⟨a0, a1, a2, a3⟩ := cells4 (box_to hle16 g9)
  obtain ⟨b0, b1, b2, b3⟩ := cells4 (box_to hle16 g10)
  clear hUp i4 i5 i9 i10 g4 g5 g9 g10 e24 e26 e28 e30
  have hle16' := Lib.hid hle16
  have h29' := Lib.hid h29
  have hcall17' := Lib.hid hcall17
  clear hcall17 h29 hle16
  go_wp2_with (fail)
  clear hW16
  go_at_call 24
  refine hcall17'.out.mono ?_
  rintro e X17 ⟨hle1, v1, cc, rfl, hres⟩
  obtain ⟨s17, Ar17, nr17, cr17, st17, Br17, mr17, dr17, rfl⟩ := hres.form
  obtain rfl := hres.code
  have hleX := hle16'.out.trans hle1
  obtain ⟨W17, hW17, hle17, hleY, h30⟩ := RB.make hleX hres
  have hleZ := hle1.trans hleY
  have h24N := Lib.hid (h24'.out.le hleZ)
  clear h24'
  have h24' := h24N
  clear h24N
  have h25N := Lib.hid (h25'.out.le hleZ)
  clear h25'
  have h25' := h25N
  clear h25N
  have h26N := Lib.hid (h26'.out.le hleZ)
  clear h26'
  have h26' := h26N
  clear h26N
  have h27N := Lib.hid (h27'.out.le hleZ)
  clear h27'
  have h27' := h27N
  clear h27N
  have h28N := Lib.hid (h28'.out.le hleZ)
  clear h28'
  have h28' := h28N
  clear h28N
  have h29N := Lib.hid (h29'.out.le hleZ)
  clear h29'
  have h29' := h29N
  clear h29N
  clear a0 a1 a2 a3 b0 b1 b2 b3 hres hle1 hleX hleY hleZ
  have hUp := hUp'.out
  have i4 := i4'.out
  have g4 := g4'.out
  have i5 := i5'.out
  have g5 := g5'.out
  have i9 := i9'.out
  have g9 := g9'.out
  have i10 := i10'.out
  have g10 := g10'.out
  have e24 := e24'.out
  have e26 := e26'.out
  have e28 := e28'.out
  have e30 := e30'.out
  have hcall18 := pf_n_Div (fun b => V.heap.size ≤ b) (fun _ => True) x y _ _ W17 (hUp _ hle17) (i4.le hle17) (i5.le hle17)
  rw [e30] at hcall18
  obtain ⟨a0, a1, a2, a3⟩ := cells4 (box_to hle17 g4)
  obtain ⟨b0, b1, b2, b3⟩ := cells4 (box_to hle17 g5)
  clear hUp i4 i5 i9 i10 g4 g5 g9 g10 e24 e26 e28 e30
  have hle17' := Lib.hid hle17
  have h30' := Lib.hid h30
  have hcall18' := Lib.hid hcall18
  clear hcall18 h30 hle17
  go_wp2_with (fail)
  clear hW17
  go_at_call 25
  refine hcall18'.out.mono ?_
  rintro e X18 ⟨hle1, v1, cc, rfl, hres⟩
  obtain ⟨s18, Ar18, nr18, cr18, st18, Br18, mr18, dr18, rfl⟩ := hres.form
  obtain rfl := hres.code
  have hleX := hle17'.out.trans hle1
  obtain ⟨W18, hW18, hle18, hleY, h32⟩ := RB.make hleX hres
  have hleZ := hle1.trans hleY
  have h24N := Lib.hid (h24'.out.le hleZ)
  clear h24'
  have h24' := h24N
  clear h24N
  have h25N := Lib.hid (h25'.out.le hleZ)
  clear h25'
  have h25' := h25N
  clear h25N
  have h26N := Lib.hid (h26'.out.le hleZ)
  clear h26'
  have h26' := h26N
  clear h26N
  have h27N := Lib.hid (h27'.out.le hleZ)
  clear h27'
  have h27' := h27N
  clear h27N
  have h28N := Lib.hid (h28'.out.le hleZ)
  clear h28'
  have h28' := h28N
  clear h28N
  have h29N := Lib.hid (h29'.out.le hleZ)
  clear h29'
  have h29' := h29N
  clear h29N
  have h30N := Lib.hid (h30'.out.le hleZ)
  clear h30'
  have h30' := h30N
  clear h30N
  clear a0 a1 a2 a3 b0 b1 b2 b3 hres hle1 hleX hleY hleZ
  have hle18' := Lib.hid hle18
  have h32' := Lib.hid h32
  clear h32 hle18
  go_upto_region 19 with (fail)
  exact next'.out _ _ _ _ _ _ _ _ _ _ (frame_mkN _ _ (by kernel_rfl)) hle18'.out h24'.out h25'.out h26'.out h27'.out h28'.out h29'.out h30'.out h32'.out _ (by assumption)
end Go.Proofs.Ytemdemfknnkcaaa
namespace Go.Proofs.Ytemdemfknnkcaaa
open Go.RowKit Go.Shelf
set_option linter.unusedVariables false
set_option linter.unusedSimpArgs false
set_option maxRecDepth 1000000 in
set_option maxHeartbeats 4000000 in
theorem ex_from19 (w : World) (x y : FracA) (va vb vx vy : Value) (r24 r26 r28 r30 : Except Int Rat) (k4 k5 k9 k10 j24 j25 j26 j27 j28 j29 j30 j32 : Nat) (V W : World) (hV : VF V k4 k5 k9 k10 va vb vx vy x y) (hwV : Below w.heap.size w V) (hle : Le V W) (h24 : RB V W j24 r24) (h25 : RB V W j25 r24) (h26 : RB V W j26 r26) (h27 : RB V W j27 r26) (h28 : RB V W j28 r28) (h29 : RB V W j29 r28) (h30 : RB V W j30 r30) (h32 : RB V W j32 r30)
    (next : ∀ (W : World) (t : Array Value), (∃ u : Nat → Value, t = #[(u 0), (u 1), (u 2), (u 3), .pointer (some ⟨k4, 0, none⟩), .pointer (some ⟨k5, 0, none⟩), (u 6), (u 7), (u 8), .pointer (some ⟨k9, 0, none⟩), .pointer (some ⟨k10, 0, none⟩), (u 11), (u 12), (u 13), (u 14), (u 15), (u 16), (u 17), (u 18), (u 19), (u 20), (u 21), (u 22), .bool true, .pointer (some ⟨j24, 0, none⟩), (u 25), .pointer (some ⟨j26, 0, none⟩), (u 27), .pointer (some ⟨j28, 0, none⟩), (u 29), .pointer (some ⟨j30, 0, none⟩), (u 31), (u 32), (u 33), (u 34), (u 35), (u 36), (u 37), (u 38), (u 39), (u 40), (u 41), (u 42), (u 43), (u 44), (u 45), (u 46), (u 47), (u 48), (u 49), (u 50), (u 51), (u 52), (u 53), (u 54), (u 55), (u 56), (u 57), (u 58), (u 59), (u 60), (u 61), (u 62), (u 63), (u 64), (u 65), (u 66), (u 67), (u 68), (u 69), (u 70), (u 71), (u 72), (u 73), (u 74), (u 75), (u 76), (u 77), (u 78), (u 79), (u 80), (u 81), (u 82), (u 83), (u 84), (u 85), (u 86), (u 87), (u 88), (u 89), (u 90), (u 91), (u 92), (u 93), (u 94), (u 95), (u 96), (u 97), (u 98), (u 99), (u 100), (u 101), (u 102), (u 103), (u 104), (u 105), (u 106), (u 107), (u 108), (u 109), (u 110), (u 111), (u 112), (u 113), (u 114), (u 115), (u 116), (u 117), (u 118), (u 119), (u 120), (u 121), (u 122), (u 123), (u 124), (u 125), (u 126), (u 127), (u 128), (u 129), (u 130), (u 131), (u 132), (u 133), (u 134), (u 135), (u 136), (u 137), (u 138), (u 139), (u 140), (u 141), (u 142), (u 143), (u 144), (u 145), (u 146), (u 147), (u 148), (u 149), (u 150), (u 151), (u 152), (u 153), (u 154), (u 155), (u 156), (u 157), (u 158), (u 159), (u 160), (u 161), (u 162), (u 163), (u 164), (u 165), (u 166), (u 167), (u 168), (u 169), (u 170), (u 171), (u 172), (u 173), (u 174), (u 175), (u 176), (u 177), (u 178), (u 179), (u 180), (u 181), (u 182), (u 183), (u 184), (u 185), (u 186), (u 187), (u 188), (u 189), (u 190), (u 191), (u 192), (u 193), (u 194), (u 195), (u 196), (u 197), (u 198), (u 199), (u 200), (u 201), (u 202), (u 203), (u 204), (u 205), (u 206), (u 207), (u 208), (u 209), (u 210), (u 211), (u 212), (u 213), (u 214), (u 215), (u 216), (u 217), (u 218), (u 219), (u 220), (u 221), (u 222), (u 223), (u 224), (u 225), (u 226), (u 227)]) → Le V W → RB V W j24 r24 → RB V W j26 r26 → RB V W j28 r28 → RB V W j30 r30 → ExFrom 20 w t W)
    (t : Array Value) (ht : ∃ u : Nat → Value, t = #[(u 0), (u 1), (u 2), (u 3), .pointer (some ⟨k4, 0, none⟩), .pointer (some ⟨k5, 0, none⟩), (u 6), (u 7), (u 8), .pointer (some ⟨k9, 0, none⟩), .pointer (some ⟨k10, 0, none⟩), (u 11), .int .i64 (codeR r24), (u 13), .int .i64 (codeR r24), (u 15), .int .i64 (codeR r26), (u 17), .int .i64 (codeR r26), (u 19), .int .i64 (codeR r28), (u 21), .int .i64 (codeR r28), .bool true, .pointer (some ⟨j24, 0, none⟩), .pointer (some ⟨j25, 0, none⟩), .pointer (some ⟨j26, 0, none⟩), .pointer (some ⟨j27, 0, none⟩), .pointer (some ⟨j28, 0, none⟩), .pointer (some ⟨j29, 0, none⟩), .pointer (some ⟨j30, 0, none⟩), .int .i64 (codeR r30), .pointer (some ⟨j32, 0, none⟩), .int .i64 (codeR r30), (u 34), (u 35), (u 36), (u 37), (u 38), (u 39), (u 40), (u 41), (u 42), (u 43), (u 44), (u 45), (u 46), (u 47), (u 48), (u 49), (u 50), (u 51), (u 52), (u 53), (u 54), (u 55), (u 56), (u 57), (u 58), (u 59), (u 60), (u 61), (u 62), (u 63), (u 64), (u 65), (u 66), (u 67), (u 68), (u 69), (u 70), (u 71), (u 72), (u 73), (u 74), (u 75), (u 76), (u 77), (u 78), (u 79), (u 80), (u 81), (u 82), (u 83), (u 84), (u 85), (u 86), (u 87), (u 88), (u 89), (u 90), (u 91), (u 92), (u 93), (u 94), (u 95), (u 96), (u 97), (u 98), (u 99), (u 100), (u 101), (u 102), (u 103), (u 104), (u 105), (u 106), (u 107), (u 108), (u 109), (u 110), (u 111), (u 112), (u 113), (u 114), (u 115), (u 116), (u 117), (u 118), (u 119), (u 120), (u 121), (u 122), (u 123), (u 124), (u 125), (u 126), (u 127), (u 128), (u 129), (u 130), (u 131), (u 132), (u 133), (u 134), (u 135), (u 136), (u 137), (u 138), (u 139), (u 140), (u 141), (u 142), (u 143), (u 144), (u 145), (u 146), (u 147), (u 148), (u 149), (u 150), (u 151), (u 152), (u 153), (u 154), (u 155), (u 156), (u 157), (u 158), (u 159), (u 160), (u 161), (u 162), (u 163), (u 164), (u 165), (u 166), (u 167), (u 168), (u 169), (u 170), (u 171), (u 172), (u 173), (u 174), (u 175), (u 176), (u 177), (u 178), (u 179), (u 180), (u 181), (u 182), (u 183), (u 184), (u 185), (u 186), (u 187), (u 188), (u 189), (u 190), (u 191), (u 192), (u 193), (u 194), (u 195), (u 196), (u 197), (u 198), (u 199), (u 200), (u 201), (u 202), (u 203), (u 204), (u 205), (u 206), (u 207), (u 208), (u 209), (u 210), (u 211), (u 212), (u 213), (u 214), (u 215), (u 216), (u 217), (u 218), (u 219), (u 220), (u 221), (u 222), (u 223), (u 224), (u 225), (u 226), (u 227)]) : ExFrom 19 w t W := by
  intro K hK
  obtain ⟨u, rfl⟩ := ht
  conv => arg 2; whnf
  have hV' := Lib.hid hV
  have hwV' := Lib.hid hwV
  have hle' := Lib.hid hle
  have next' := Lib.hid next
  have h24' := Lib.hid h24
  have h25' := Lib.hid h25
  have h26' := Lib.hid h26
  have h27' := Lib.hid h27
  have h28' := Lib.hid h28
  have h29' := Lib.hid h29
  have h30' := Lib.hid h30
  have h32' := Lib.hid h32
  clear h32 h30 h29 h28 h27 h26 h25 h24 next hle hwV hV
  obtain ⟨-, sa, Aa, na, ca, ta, Ba, ma, da, qa, ia⟩ := h24'.out
  obtain ⟨a0, a1, a2, a3⟩ := cells4 qa
  obtain ⟨-, sb, Ab, nb, cb, tb, Bb, mb, db, qb, ib⟩ := h25'.out
  obtain ⟨b0, b1, b2, b3⟩ := cells4 qb
  have hsame := pf_n_SameFrac _ _ (resF r24) (resF r24) _ _ W ia.fracA ib.fracA
  rw [sameF_self] at hsame
  have qa' := Lib.hid qa
  have qb' := Lib.hid qb
  have ia' := Lib.hid ia
  have ib' := Lib.hid ib
  have hsame' := Lib.hid hsame
  clear hsame ib ia qb qa
  go_wp2_with (fail)
  go_at_call 15
  refine hsame'.out.mono ?_
  rintro e X0 ⟨rfl, hle1⟩
  have hleN0 := Lib.hid (hle'.out.trans hle1)
  clear a0 a1 a2 a3 b0 b1 b2 b3 qa' qb' ia' ib' hsame'
  have h24N := Lib.hid (h24'.out.le hle1)
  clear h24'
  have h24' := h24N
  clear h24N
  have h25N := Lib.hid (h25'.out.le hle1)
  clear h25'
  have h25' := h25N
  clear h25N
  have h26N := Lib.hid (h26'.out.le hle1)
  clear h26'
  have h26' := h26N
  clear h26N
  have h27N := Lib.hid (h27'.out.le hle1)
  clear h27'
  have h27' := h27N
  clear h27N
  have h28N := Lib.hid (h28'.out.le hle1)
  clear h28'
  have h28' := h28N
  clear h28N
  have h29N := Lib.hid (h29'.out.le hle1)
  clear h29'
  have h29' := h29N
  clear h29N
  have h30N := Lib.hid (h30'.out.le hle1)
  clear h30'
  have h30' := h30N
  clear h30N
  have h32N := Lib.hid (h32'.out.le hle1)
  clear h32'
  have h32' := h32N
  clear h32N
  clear hle1
  obtain ⟨-, sa, Aa, na, ca, ta, Ba, ma, da, qa, ia⟩ := h26'.out
  obtain ⟨a0, a1, a2, a3⟩ := cells4 qa
  obtain ⟨-, sb, Ab, nb, cb, tb, Bb, mb, db, qb, ib⟩ := h27'.out
  obtain ⟨b0, b1, b2, b3⟩ := cells4 qb
  have hsame := pf_n_SameFrac _ _ (resF r26) (resF r26) _ _ X0 ia.fracA ib.fracA
  rw [sameF_self] at hsame
  have qa' := Lib.hid qa
  have qb' := Lib.hid qb
  have ia' := Lib.hid ia
  have ib' := Lib.hid ib
  have hsame' := Lib.hid hsame
  clear hsame ib ia qb qa
  go_wp2_with (fail)
  go_at_call 15
  refine hsame'.out.mono ?_
  rintro e X1 ⟨rfl, hle1⟩
  have hleN1 := Lib.hid (hleN0.out.trans hle1)
  clear a0 a1 a2 a3 b0 b1 b2 b3 qa' qb' ia' ib' hsame'
  have h24N := Lib.hid (h24'.out.le hle1)
  clear h24'
  have h24' := h24N
  clear h24N
  have h25N := Lib.hid (h25'.out.le hle1)
  clear h25'
  have h25' := h25N
  clear h25N
  have h26N := Lib.hid (h26'.out.le hle1)
  clear h26'
  have h26' := h26N
  clear h26N
  have h27N := Lib.hid (h27'.out.le hle1)
  clear h27'
  have h27' := h27N
  clear h27N
  have h28N := Lib.hid (h28'.out.le hle1)
  clear h28'
  have h28' := h28N
  clear h28N
  have h29N := Lib.hid (h29'.out.le hle1)
  clear h29'
  have h29' := h29N
  clear h29N
  have h30N := Lib.hid (h30'.out.le hle1)
  clear h30'
  have h30' := h30N
  clear h30N
  have h32N := Lib.hid (h32'.out.le hle1)
  clear h32'
  have h32' := h32N
  clear h32N
  clear hle1
  obtain ⟨-, sa, Aa, na, ca, ta, Ba, ma, da, qa, ia⟩ := h28'.out
  obtain ⟨a0, a1, a2, a3⟩ := cells4 qa
  obtain ⟨-, sb, Ab, nb, cb, tb, Bb, mb, db, qb, ib⟩ := h29'.out
  obtain ⟨b0, b1, b2, b3⟩ := cells4 qb
  have hsame := pf_n_SameFrac _ _ (resF r28) (resF r28) _ _ X1 ia.fracA ib.fracA
  rw [sameF_self] at hsame
  have qa' := Lib.hid qa
  have qb' := Lib.hid qb
  have ia' := Lib.hid ia
  have ib' := Lib.hid ib
  have hsame' := Lib.hid hsame
  clear hsame ib ia qb qa
  go_wp2_with (fail)
  go_at_call 15
  refine hsame'.out.mono ?_
  rintro e X2 ⟨rfl, hle1⟩
  have hleN2 := Lib.hid (hleN1.out.trans hle1)
  clear a0 a1 a2 a3 b0 b1 b2 b3 qa' qb' ia' ib' hsame'
  have h24N := Lib.hid (h24'.out.le hle1)
  clear h24'
  have h24' := h24N
  clear h24N
  have h25N := Lib.hid (h25'.out.le hle1)
  clear h25'
  have h25' := h25N
  clear h25N
  have h26N := Lib.hid (h26'.out.le hle1)
  clear h26'
  have h26' := h26N
  clear h26N
  have h27N := Lib.hid (h27'.out.le hle1)
  clear h27'
  have h27' := h27N
  clear h27N
  have h28N := Lib.hid (h28'.out.le hle1)
  clear h28'
  have h28' := h28N
  clear h28N
  have h29N := Lib.hid (h29'.out.le hle1)
  clear h29'
  have h29' := h29N
  clear h29N
  have h30N := Lib.hid (h30'.out.le hle1)
  clear h30'
  have h30' := h30N
  clear h30N
  have h32N := Lib.hid (h32'.out.le hle1)
  clear h32'
  have h32' := h32N
  clear h32N
  clear hle1
  obtain ⟨-, sa, Aa, na, ca, ta, Ba, ma, da, qa, ia⟩ := h30'.out
  obtain ⟨a0, a1, a2, a3⟩ := cells4 qa
  obtain ⟨-, sb, Ab, nb, cb, tb, Bb, mb, db, qb, ib⟩ := h32'.out
  obtain ⟨b0, b1, b2, b3⟩ := cells4 qb
  have hsame := pf_n_SameFrac _ _ (resF r30) (resF r30) _ _ X2 ia.fracA ib.fracA
  rw [sameF_self] at hsame
  have qa' := Lib.hid qa
  have qb' := Lib.hid qb
  have ia' := Lib.hid ia
  have ib' := Lib.hid ib
  have hsame' := Lib.hid hsame
  clear hsame ib ia qb qa
  go_wp2_with (fail)
  go_at_call 15
  refine hsame'.out.mono ?_
  rintro e X3 ⟨rfl, hle1⟩
  have hleN3 := Lib.hid (hleN2.out.trans hle1)
  clear a0 a1 a2 a3 b0 b1 b2 b3 qa' qb' ia' ib' hsame'
  have h24N := Lib.hid (h24'.out.le hle1)
  clear h24'
  have h24' := h24N
  clear h24N
  have h25N := Lib.hid (h25'.out.le hle1)
  clear h25'
  have h25' := h25N
  clear h25N
  have h26N := Lib.hid (h26'.out.le hle1)
  clear h26'
  have h26' := h26N
  clear h26N
  have h27N := Lib.hid (h27'.out.le hle1)
  clear h27'
  have h27' := h27N
  clear h27N
  have h28N := Lib.hid (h28'.out.le hle1)
  clear h28'
  have h28' := h28N
  clear h28N
  have h29N := Lib.hid (h29'.out.le hle1)
  clear h29'
  have h29' := h29N
  clear h29N
  have h30N := Lib.hid (h30'.out.le hle1)
  clear h30'
  have h30' := h30N
  clear h30N
  have h32N := Lib.hid (h32'.out.le hle1)
  clear h32'
  have h32' := h32N
  clear h32N
  clear hle1
  go_wp2_with (fail)
  conv => arg 2; whnf
  go_upto_region 20 with (fail)
  exact next'.out _ _ (frame_mkN _ _ (by kernel_rfl)) hleN3.out h24'.out h26'.out h28'.out h30'.out _ (by assumption)
end Go.Proofs.Ytemdemfknnkcaaa
namespace Go.Proofs.Ytemdemfknnkcaaa
open Go.RowKit Go.Shelf
set_option linter.unusedVariables false
set_option linter.unusedSimpArgs false
def Four (W : World) (j : Nat) (s : Bool) (A : Option Addr) (n c : Nat) (s' : Bool) (B : Option Addr) (m d : Nat) : Prop := W.cell? ⟨j, 0, none⟩ = some (.bool s) ∧ W.cell? ⟨j, 1, none⟩ = some (.slice A n c) ∧ W.cell? ⟨j, 2, none⟩ = some (.bool s') ∧ W.cell? ⟨j, 3, none⟩ = some (.slice B m d)
theorem EraC.keep {W W' : World} (h : EraC W W') {b o : Nat} {u : Value} (hu : W.cell? ⟨b, o, none⟩ = some u) (hn : ∀ g : Int, u ≠ .int .u32 g) : W'.cell? ⟨b, o, none⟩ = some u := by
  obtain ⟨u', h1, -, h3⟩ := h b o u hu
  rw [h1, h3 hn]
theorem Four.era {W W' : World} {j : Nat} {s : Bool} {A : Option Addr} {n c : Nat} {s' : Bool} {B : Option Addr} {m d : Nat} (h : Four W j s A n c s' B m d) (k : EraC W W') : Four W' j s A n c s' B m d :=
  ⟨k.keep h.1 (fun g => by simp), k.keep h.2.1 (fun g => by simp), k.keep h.2.2.1 (fun g => by simp), k.keep h.2.2.2 (fun g => by simp)⟩
theorem RB.four {V W : World} {j : Nat} {res : Except Int Rat} (h : RB V W j res) (hr : ROk res) : ∃ s A n c s' B m d, Four W j s A n c s' B m d ∧ EraF W V.heap.size (.agg #[.bool s, .slice A n c, .bool s', .slice B m d]) := by
  obtain ⟨-, s, A, n, c, s', B, m, d, q, i⟩ := h
  exact ⟨s, A, n, c, s', B, m, d, cells4 q, i.era (fun b hb => hb) hr⟩
set_option maxRecDepth 1000000 in
set_option maxHeartbeats 4000000 in
theorem ex_from20 (w : World) (x y : FracA) (va vb vx vy : Value) (r24 r26 r28 r30 : Except Int Rat) (k4 k5 k9 k10 j24 j26 j28 j30 : Nat) (V W : World) (hV : VF V k4 k5 k9 k10 va vb vx vy x y) (hwV : Below w.heap.size w V) (hle : Le V W) (h24 : RB V W j24 r24) (h26 : RB V W j26 r26) (h28 : RB V W j28 r28) (h30 : RB V W j30 r30) (o24 : ROk r24) (o26 : ROk r26) (o28 : ROk r28) (o30 : ROk r30)
    (t : Array Value) (ht : ∃ u : Nat → Value, t = #[(u 0), (u 1), (u 2), (u 3), .pointer (some ⟨k4, 0, none⟩), .pointer (some ⟨k5, 0, none⟩), (u 6), (u 7), (u 8), .pointer (some ⟨k9, 0, none⟩), .pointer (some ⟨k10, 0, none⟩), (u 11), (u 12), (u 13), (u 14), (u 15), (u 16), (u 17), (u 18), (u 19), (u 20), (u 21), (u 22), .bool true, .pointer (some ⟨j24, 0, none⟩), (u 25), .pointer (some ⟨j26, 0, none⟩), (u 27), .pointer (some ⟨j28, 0, none⟩), (u 29), .pointer (some ⟨j30, 0, none⟩), (u 31), (u 32), (u 33), (u 34), (u 35), (u 36), (u 37), (u 38), (u 39), (u 40), (u 41), (u 42), (u 43), (u 44), (u 45), (u 46), (u 47), (u 48), (u 49), (u 50), (u 51), (u 52), (u 53), (u 54), (u 55), (u 56), (u 57), (u 58), (u 59), (u 60), (u 61), (u 62), (u 63), (u 64), (u 65), (u 66), (u 67), (u 68), (u 69), (u 70), (u 71), (u 72), (u 73), (u 74), (u 75), (u 76), (u 77), (u 78), (u 79), (u 80), (u 81), (u 82), (u 83), (u 84), (u 85), (u 86), (u 87), (u 88), (u 89), (u 90), (u 91), (u 92), (u 93), (u 94), (u 95), (u 96), (u 97), (u 98), (u 99), (u 100), (u 101), (u 102), (u 103), (u 104), (u 105), (u 106), (u 107), (u 108), (u 109), (u 110), (u 111), (u 112), (u 113), (u 114), (u 115), (u 116), (u 117), (u 118), (u 119), (u 120), (u 121), (u 122), (u 123), (u 124), (u 125), (u 126), (u 127), (u 128), (u 129), (u 130), (u 131), (u 132), (u 133), (u 134), (u 135), (u 136), (u 137), (u 138), (u 139), (u 140), (u 141), (u 142), (u 143), (u 144), (u 145), (u 146), (u 147), (u 148), (u 149), (u 150), (u 151), (u 152), (u 153), (u 154), (u 155), (u 156), (u 157), (u 158), (u 159), (u 160), (u 161), (u 162), (u 163), (u 164), (u 165), (u 166), (u 167), (u 168), (u 169), (u 170), (u 171), (u 172), (u 173), (u 174), (u 175), (u 176), (u 177), (u 178), (u 179), (u 180), (u 181), (u 182), (u 183), (u 184), (u 185), (u 186), (u 187), (u 188), (u 189), (u 190), (u 191), (u 192), (u 193), (u 194), (u 195), (u 196), (u 197), (u 198), (u 199), (u 200), (u 201), (u 202), (u 203), (u 204), (u 205), (u 206), (u 207), (u 208), (u 209), (u 210), (u 211), (u 212), (u 213), (u 214), (u 215), (u 216), (u 217), (u 218), (u 219), (u 220), (u 221), (u 222), (u 223), (u 224), (u 225), (u 226), (u 227)]) : ExFrom 20 w t W := by
  intro K hK
  obtain ⟨u, rfl⟩ := ht
  obtain ⟨s24, A24, n24, c24, t24, B24, m24, d24, f24, z24⟩ := h24.four o24
  obtain ⟨s26, A26, n26, c26, t26, B26, m26, d26, f26, z26⟩ := h26.four o26
  obtain ⟨s28, A28, n28, c28, t28, B28, m28, d28, f28, z28⟩ := h28.four o28
  obtain ⟨s30, A30, n30, c30, t30, B30, m30, d30, f30, z30⟩ := h30.four o30
  conv => arg 2; whnf
  have hE := pf_erase V.heap.size _ W hle.size z24
  obtain ⟨a0, a1, a2, a3⟩ := f24
  have hV' := Lib.hid hV
  have hwV' := Lib.hid hwV
  have hle' := Lib.hid hle
  have h24' := Lib.hid h24
  have h26' := Lib.hid h26
  have h28' := Lib.hid h28
  have h30' := Lib.hid h30
  have o24' := Lib.hid o24
  have o26' := Lib.hid o26
  have o28' := Lib.hid o28
  have o30' := Lib.hid o30
  have f26' := Lib.hid f26
  have f28' := Lib.hid f28
  have f30' := Lib.hid f30
  have z24' := Lib.hid z24
  have z26' := Lib.hid z26
  have z28' := Lib.hid z28
  have z30' := Lib.hid z30
  have hE' := Lib.hid hE
  clear hE z30 z28 z26 z24 f30 f28 f26 o30 o28 o26 o24 h30 h28 h26 h24 hle hwV hV
  go_wp2_with (fail)
  go_at_call 26
  refine hE'.out.mono ?_
  rintro e X24 ⟨rfl, hb1, hb2, hb3⟩
  have hleN24 := Lib.hid (show Le V X24 from Below.trans (show Below V.heap.size V W from hle'.out) hb1)
  clear a0 a1 a2 a3 hE'
  have f26N := Lib.hid (f26'.out.era hb3)
  have z26N := Lib.hid (z26'.out.to hb2 hb3)
  clear f26' z26'
  have f26' := f26N
  have z26' := z26N
  clear f26N z26N
  have f28N := Lib.hid (f28'.out.era hb3)
  have z28N := Lib.hid (z28'.out.to hb2 hb3)
  clear f28' z28'
  have f28' := f28N
  have z28' := z28N
  clear f28N z28N
  have f30N := Lib.hid (f30'.out.era hb3)
  have z30N := Lib.hid (z30'.out.to hb2 hb3)
  clear f30' z30'
  have f30' := f30N
  have z30' := z30N
  clear f30N z30N
  clear hb1 hb2 hb3
  have hE' := Lib.hid (pf_erase V.heap.size _ X24 hleN24.out.size z26'.out)
  obtain ⟨a0, a1, a2, a3⟩ := f26'.out
  go_wp2_with (fail)
  conv => arg 2; whnf
  go_wp2_with (fail)
  go_at_call 26
  refine hE'.out.mono ?_
  rintro e X26 ⟨rfl, hb1, hb2, hb3⟩
  have hleN26 := Lib.hid (show Le V X26 from Below.trans (show Below V.heap.size V X24 from hleN24.out) hb1)
  clear a0 a1 a2 a3 hE'
  have f28N := Lib.hid (f28'.out.era hb3)
  have z28N := Lib.hid (z28'.out.to hb2 hb3)
  clear f28' z28'
  have f28' := f28N
  have z28' := z28N
  clear f28N z28N
  have f30N := Lib.hid (f30'.out.era hb3)
  have z30N := Lib.hid (z30'.out.to hb2 hb3)
  clear f30' z30'
  have f30' := f30N
  have z30' := z30N
  clear f30N z30N
  clear hb1 hb2 hb3
  have hE' := Lib.hid (pf_erase V.heap.size _ X26 hleN26.out.size z28'.out)
  obtain ⟨a0, a1, a2, a3⟩ := f28'.out
  go_wp2_with (fail)
  go_at_call 26
  refine hE'.out.mono ?_
  rintro e X28 ⟨rfl, hb1, hb2, hb3⟩
  have hleN28 := Lib.hid (show Le V X28 from Below.trans (show Below V.heap.size V X26 from hleN26.out) hb1)
  clear a0 a1 a2 a3 hE'
  have f30N := Lib.hid (f30'.out.era hb3)
  have z30N := Lib.hid (z30'.out.to hb2 hb3)
  clear f30' z30'
  have f30' := f30N
  have z30' := z30N
  clear f30N z30N
  clear hb1 hb2 hb3
  have hE' := Lib.hid (pf_erase V.heap.size _ X28 hleN28.out.size z30'.out)
  obtain ⟨a0, a1, a2, a3⟩ := f30'.out
  go_wp2_with (fail)
  go_at_call 26
  refine hE'.out.mono ?_
  rintro e X30 ⟨rfl, hb1, hb2, hb3⟩
  have hleN30 := Lib.hid (show Le V X30 from Below.trans (show Below V.heap.size V X28 from hleN28.out) hb1)
  clear a0 a1 a2 a3 hE'
  clear hb1 hb2 hb3
  obtain ⟨A4, c4, B4, d4, rfl, g4, i4⟩ := hV'.out.a
  obtain ⟨A5, c5, B5, d5, rfl, g5, i5⟩ := hV'.out.b
  obtain ⟨A9, c9, B9, d9, rfl, g9, i9⟩ := hV'.out.x
  obtain ⟨A10, c10, B10, d10, rfl, g10, i10⟩ := hV'.out.y
  have g4' := Lib.hid g4
  have g5' := Lib.hid g5
  have g9' := Lib.hid g9
  have g10' := Lib.hid g10
  have i4' := Lib.hid i4
  have i5' := Lib.hid i5
  have i9' := Lib.hid i9
  have i10' := Lib.hid i10
  clear i10 i9 i5 i4 g10 g9 g5 g4
  obtain ⟨a0, a1, a2, a3⟩ := cells4 (box_to hleN30.out g9'.out)
  obtain ⟨b0, b1, b2, b3⟩ := cells4 (box_to hleN30.out g4'.out)
  have hsame := pf_n_SameFrac _ _ x x _ _ X30 (i9'.out.le hleN30.out) (i4'.out.le hleN30.out)
  rw [sameF_self] at hsame
  have hsame' := Lib.hid hsame
  clear hsame
  go_wp2_with (fail)
  go_at_call 15
  refine hsame'.out.mono ?_
  rintro e Y0 ⟨rfl, hle1⟩
  have hleM0 := Lib.hid (hleN30.out.trans hle1)
  clear a0 a1 a2 a3 b0 b1 b2 b3 hsame' hle1
  obtain ⟨a0, a1, a2, a3⟩ := cells4 (box_to hleM0.out g10'.out)
  obtain ⟨b0, b1, b2, b3⟩ := cells4 (box_to hleM0.out g5'.out)
  have hsame := pf_n_SameFrac _ _ y y _ _ Y0 (i10'.out.le hleM0.out) (i5'.out.le hleM0.out)
  rw [sameF_self] at hsame
  have hsame' := Lib.hid hsame
  clear hsame
  go_wp2_with (fail)
  go_at_call 15
  refine hsame'.out.mono ?_
  rintro e Y1 ⟨rfl, hle1⟩
  have hleM1 := Lib.hid (hleM0.out.trans hle1)
  clear a0 a1 a2 a3 b0 b1 b2 b3 hsame' hle1
  go_wp2
  go_ret
  exact ⟨rfl, hwV'.out.trans (hleM1.out.mono hwV'.out.size)⟩
end Go.Proofs.Ytemdemfknnkcaaa
namespace Go.Proofs.Ytemdemfknnkcaaa
open Go.RowKit Go.Shelf
set_option linter.unusedVariables false
set_option linter.unusedSimpArgs false
set_option maxRecDepth 1000000 in
set_option maxHeartbeats 4000000 in
theorem ex_from4 (w : World) (x y : FracA) (va vb vx vy : Value) (n d cv ce n1 n2 : Int) (r19 : Except Int Rat) (k4 k5 k9 k10 : Nat) (V : World) (hV : VF V k4 k5 k9 k10 va vb vx vy x y) (hn0 : -9223372036854775808 ≤ n) (hn1 : n ≤ 9223372036854775807) (hd0 : -9223372036854775808 ≤ d) (hd1 : d ≤ 9223372036854775807) (ecv : cmpV x y = cv) (ece : okE (okA x && okA y) = ce) (en1 : (nearE x).1 = n1) (en2 : (nearE x).2 = n2) (e19 : ratioR n d = r19)
    (next : ∀ (j19 j21 : Nat) (W : World) (t : Array Value), (∃ u : Nat → Value, t = #[(u 0), (u 1), .int .i64 n, .int .i64 d, .pointer (some ⟨k4, 0, none⟩), .pointer (some ⟨k5, 0, none⟩), (u 6), (u 7), (u 8), .pointer (some ⟨k9, 0, none⟩), .pointer (some ⟨k10, 0, none⟩), .int .i64 cv, .int .i64 ce, .int .i64 cv, .int .i64 ce, .int .i64 n1, .int .i64 n2, .int .i64 n1, .int .i64 n2, .pointer (some ⟨j19, 0, none⟩), .int .i64 (codeR r19), .pointer (some ⟨j21, 0, none⟩), .int .i64 (codeR r19), (u 23), (u 24), (u 25), (u 26), (u 27), (u 28), (u 29), (u 30), (u 31), (u 32), (u 33), (u 34), (u 35), (u 36), (u 37), (u 38), (u 39), (u 40), (u 41), (u 42), (u 43), (u 44), (u 45), (u 46), (u 47), (u 48), (u 49), (u 50), (u 51), (u 52), (u 53), (u 54), (u 55), (u 56), (u 57), (u 58), (u 59), (u 60), (u 61), (u 62), (u 63), (u 64), (u 65), (u 66), (u 67), (u 68), (u 69), (u 70), (u 71), (u 72), (u 73), (u 74), (u 75), (u 76), (u 77), (u 78), (u 79), (u 80), (u 81), (u 82), (u 83), (u 84), (u 85), (u 86), (u 87), (u 88), (u 89), (u 90), (u 91), (u 92), (u 93), (u 94), (u 95), (u 96), (u 97), (u 98), (u 99), (u 100), (u 101), (u 102), (u 103), (u 104), (u 105), (u 106), (u 107), (u 108), (u 109), (u 110), (u 111), (u 112), (u 113), (u 114), (u 115), (u 116), (u 117), (u 118), (u 119), (u 120), (u 121), (u 122), (u 123), (u 124), (u 125), (u 126), (u 127), (u 128), (u 129), (u 130), (u 131), (u 132), (u 133), (u 134), (u 135), (u 136), (u 137), (u 138), (u 139), (u 140), (u 141), (u 142), (u 143), (u 144), (u 145), (u 146), (u 147), (u 148), (u 149), (u 150), (u 151), (u 152), (u 153), (u 154), (u 155), (u 156), (u 157), (u 158), (u 159), (u 160), (u 161), (u 162), (u 163), (u 164), (u 165), (u 166), (u 167), (u 168), (u 169), (u 170), (u 171), (u 172), (u 173), (u 174), (u 175), (u 176), (u 177), (u 178), (u 179), (u 180), (u 181), (u 182), (u 183), (u 184), (u 185), (u 186), (u 187), (u 188), (u 189), (u 190), (u 191), (u 192), (u 193), (u 194), (u 195), (u 196), (u 197), (u 198), (u 199), (u 200), (u 201), (u 202), (u 203), (u 204), (u 205), (u 206), (u 207), (u 208), (u 209), (u 210), (u 211), (u 212), (u 213), (u 214), (u 215), (u 216), (u 217), (u 218), (u 219), (u 220), (u 221), (u 222), (u 223), (u 224), (u 225), (u 226), (u 227)]) → Le V W → RB V W j19 r19 → RB V W j21 r19 → ExFrom 10 w t W)
    (t : Array Value) (ht : ∃ u : Nat → Value, t = #[(u 0), (u 1), .int .i64 n, .int .i64 d, .pointer (some ⟨k4, 0, none⟩), .pointer (some ⟨k5, 0, none⟩), (u 6), (u 7), (u 8), .pointer (some ⟨k9, 0, none⟩), .pointer (some ⟨k10, 0, none⟩), (u 11), (u 12), (u 13), (u 14), (u 15), (u 16), (u 17), (u 18), (u 19), (u 20), (u 21), (u 22), (u 23), (u 24), (u 25), (u 26), (u 27), (u 28), (u 29), (u 30), (u 31), (u 32), (u 33), (u 34), (u 35), (u 36), (u 37), (u 38), (u 39), (u 40), (u 41), (u 42), (u 43), (u 44), (u 45), (u 46), (u 47), (u 48), (u 49), (u 50), (u 51), (u 52), (u 53), (u 54), (u 55), (u 56), (u 57), (u 58), (u 59), (u 60), (u 61), (u 62), (u 63), (u 64), (u 65), (u 66), (u 67), (u 68), (u 69), (u 70), (u 71), (u 72), (u 73), (u 74), (u 75), (u 76), (u 77), (u 78), (u 79), (u 80), (u 81), (u 82), (u 83), (u 84), (u 85), (u 86), (u 87), (u 88), (u 89), (u 90), (u 91), (u 92), (u 93), (u 94), (u 95), (u 96), (u 97), (u 98), (u 99), (u 100), (u 101), (u 102), (u 103), (u 104), (u 105), (u 106), (u 107), (u 108), (u 109), (u 110), (u 111), (u 112), (u 113), (u 114), (u 115), (u 116), (u 117), (u 118), (u 119), (u 120), (u 121), (u 122), (u 123), (u 124), (u 125), (u 126), (u 127), (u 128), (u 129), (u 130), (u 131), (u 132), (u 133), (u 134), (u 135), (u 136), (u 137), (u 138), (u 139), (u 140), (u 141), (u 142), (u 143), (u 144), (u 145), (u 146), (u 147), (u 148), (u 149), (u 150), (u 151), (u 152), (u 153), (u 154), (u 155), (u 156), (u 157), (u 158), (u 159), (u 160), (u 161), (u 162), (u 163), (u 164), (u 165), (u 166), (u 167), (u 168), (u 169), (u 170), (u 171), (u 172), (u 173), (u 174), (u 175), (u 176), (u 177), (u 178), (u 179), (u 180), (u 181), (u 182), (u 183), (u 184), (u 185), (u 186), (u 187), (u 188), (u 189), (u 190), (u 191), (u 192), (u 193), (u 194), (u 195), (u 196), (u 197), (u 198), (u 199), (u 200), (u 201), (u 202), (u 203), (u 204), (u 205), (u 206), (u 207), (u 208), (u 209), (u 210), (u 211), (u 212), (u 213), (u 214), (u 215), (u 216), (u 217), (u 218), (u 219), (u 220), (u 221), (u 222), (u 223), (u 224), (u 225), (u 226), (u 227)]) : ExFrom 4 w t V := by
  intro K hK
  obtain ⟨u, rfl⟩ := ht
  obtain ⟨A4, c4, B4, d4, rfl, g4, i4⟩ := hV.a
  obtain ⟨A5, c5, B5, d5, rfl, g5, i5⟩ := hV.b
  obtain ⟨A9, c9, B9, d9, rfl, g9, i9⟩ := hV.x
  obtain ⟨A10, c10, B10, d10, rfl, g10, i10⟩ := hV.y
  have hUp : ∀ W', Le V W' → Up W' (fun b => V.heap.size ≤ b) := fun W' h b hb => Nat.le_trans h.size hb
  have hle := Lib.hid (Le.refl V)
  conv => arg 2; whnf
  have hV' := Lib.hid hV
  have next' := Lib.hid next
  have g4' := Lib.hid g4
  have g5' := Lib.hid g5
  have g9' := Lib.hid g9
  have g10' := Lib.hid g10
  have i4' := Lib.hid i4
  have i5' := Lib.hid i5
  have i9' := Lib.hid i9
  have i10' := Lib.hid i10
  have hUp' := Lib.hid hUp
  have ecv' := Lib.hid ecv
  have ece' := Lib.hid ece
  have en1' := Lib.hid en1
  have en2' := Lib.hid en2
  have e19' := Lib.hid e19
  have hn0' := Lib.hid hn0
  have hn1' := Lib.hid hn1
  have hd0' := Lib.hid hd0
  have hd1' := Lib.hid hd1
  clear hd1 hd0 hn1 hn0 e19 en2 en1 ece ecv hUp i10 i9 i5 i4 g10 g9 g5 g4 next hV
  obtain ⟨a0, a1, a2, a3⟩ := cells4 (box_to hle.out g9'.out)
  obtain ⟨b0, b1, b2, b3⟩ := cells4 (box_to hle.out g10'.out)
  have hcall := pf_Compare x y _ _ V (i9'.out.le hle.out) (i10'.out.le hle.out)
  rw [ecv'.out, ece'.out] at hcall
  have hcall' := Lib.hid hcall
  clear hcall
  go_wp2_with (fail)
  go_at_call 7
  refine hcall'.out.mono ?_
  rintro e X0 ⟨rfl, hle1⟩
  have hleN0 := Lib.hid (hle.out.trans hle1)
  clear hcall' hle1 a0 a1 a2 a3 b0 b1 b2 b3
  obtain ⟨a0, a1, a2, a3⟩ := cells4 (box_to hleN0.out g4'.out)
  obtain ⟨b0, b1, b2, b3⟩ := cells4 (box_to hleN0.out g5'.out)
  have hcall := pf_n_Compare (fun b => V.heap.size ≤ b) (fun _ => True) x y _ _ X0 (hUp'.out _ hleN0.out) (i4'.out.le hleN0.out) (i5'.out.le hleN0.out)
  rw [ecv'.out, ece'.out] at hcall
  have hcall' := Lib.hid hcall
  clear hcall
  go_wp2_with (fail)
  conv => arg 2; whnf
  go_wp2_with (fail)
  go_at_call 8
  refine hcall'.out.mono ?_
  rintro e X1 ⟨rfl, hle1⟩
  have hleN1 := Lib.hid (hleN0.out.trans hle1)
  clear hcall' hle1 a0 a1 a2 a3 b0 b1 b2 b3
  obtain ⟨a0, a1, a2, a3⟩ := cells4 (box_to hleN1.out g9'.out)
  have hcall := pf_Nearest x _ X1 (i9'.out.le hleN1.out)
  rw [en1'.out, en2'.out] at hcall
  have hcall' := Lib.hid hcall
  clear hcall
  go_wp2_with (fail)
  go_at_call 9
  refine hcall'.out.mono ?_
  rintro e X2 ⟨rfl, hle1⟩
  have hleN2 := Lib.hid (hleN1.out.trans hle1)
  clear hcall' hle1 a0 a1 a2 a3
  obtain ⟨a0, a1, a2, a3⟩ := cells4 (box_to hleN2.out g4'.out)
  have hcall := pf_n_Nearest (fun b => V.heap.size ≤ b) (fun _ => True) x _ X2 (hUp'.out _ hleN2.out) (i4'.out.le hleN2.out)
  rw [en1'.out, en2'.out] at hcall
  have hcall' := Lib.hid hcall
  clear hcall
  go_wp2_with (fail)
  go_at_call 10
  refine hcall'.out.mono ?_
  rintro e X3 ⟨rfl, hle1⟩
  have hleN3 := Lib.hid (hleN2.out.trans hle1)
  clear hcall' hle1 a0 a1 a2 a3
  have hcall := pf_Ratio (fun b => V.heap.size ≤ b) n d X3 (hUp'.out _ hleN3.out) hn0'.out hn1'.out hd0'.out hd1'.out
  rw [e19'.out] at hcall
  have hcall' := Lib.hid hcall
  clear hcall
  go_wp2_with (fail)
  go_at_call 11
  refine hcall'.out.mono ?_
  rintro e X4 ⟨hle1, v1, cc, rfl, hres⟩
  obtain ⟨s4, Ar4, nr4, cr4, st4, Br4, mr4, dr4, rfl⟩ := hres.form
  obtain rfl := hres.code
  have hleX := hleN3.out.trans hle1
  obtain ⟨W4, hW4, hleV, hleY, h19⟩ := RB.make hleX hres
  have hleZ := hle1.trans hleY
  have hleN4 := Lib.hid hleV
  clear hres hle1 hleX hleV hleY hleZ hcall'
  have h19' := Lib.hid h19
  clear h19
  have hcall := pf_n_Ratio (fun b => V.heap.size ≤ b) n d W4 (hUp'.out _ hleN4.out) hn0'.out hn1'.out hd0'.out hd1'.out
  rw [e19'.out] at hcall
  have hcall' := Lib.hid hcall
  clear hcall
  go_wp2_with (fail)
  clear hW4
  go_at_call 12
  refine hcall'.out.mono ?_
  rintro e X5 ⟨hle1, v1, cc, rfl, hres⟩
  obtain ⟨s5, Ar5, nr5, cr5, st5, Br5, mr5, dr5, rfl⟩ := hres.form
  obtain rfl := hres.code
  have hleX := hleN4.out.trans hle1
  obtain ⟨W5, hW5, hleV, hleY, h21⟩ := RB.make hleX hres
  have hleZ := hle1.trans hleY
  have hleN5 := Lib.hid hleV
  have h19N := Lib.hid (h19'.out.le hleZ)
  clear h19'
  have h19' := h19N
  clear h19N
  clear hres hle1 hleX hleV hleY hleZ hcall'
  have h21' := Lib.hid h21
  clear h21
  go_upto_region 10 with (fail)
  exact next'.out _ _ _ _ (frame_mkN _ _ (by kernel_rfl)) hleN5.out h19'.out h21'.out _ (by assumption)
end Go.Proofs.Ytemdemfknnkcaaa
