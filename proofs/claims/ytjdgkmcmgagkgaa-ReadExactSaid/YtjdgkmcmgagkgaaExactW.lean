/- ReadExact: what a round of its loop does, from the search for the settings on. -/
import Derived.Test.YtjdgkmcmgagkgaaReadLaw
import Derived.Test.YtjdgkmcmgagkgaaPicKit
import Derived.Test.YtjdgkmcmgagkgaaRdValid
import Derived.Test.YtjdgkmcmgagkgaaQReg
import Derived.BigRegion
import Derived.BigQuiet
namespace Go.Proofs.Ytjdgkmcmgagkgaa
set_option maxRecDepth 100000
set_option maxHeartbeats 4000000
open Go.RowKit
set_option linter.unusedVariables false
set_option linter.unusedSimpArgs false
def befF (y x : Fnd) : Prop := y.head < x.head ∨ (y.head = x.head ∧ (y.throw < x.throw ∨ (y.throw = x.throw ∧ (y.adv < x.adv ∨ (y.adv = x.adv ∧ y.hi + 1 < x.lo)))))
def fdOne (h t a s : Int) (f : Fnd) : Bool := decide (f.head = h) && (decide (f.throw = t) && (decide (f.adv = a) && (decide (f.lo ≤ s) && decide (s ≤ f.hi))))
def fdB (L : List Fnd) (h t a s : Int) (k : Nat) : Bool := (L.take k).any (fdOne h t a s)
theorem fdB_succ {L : List Fnd} {h t a s : Int} {k : Nat} (hk : k < L.length) : fdB L h t a s (k + 1) = (fdB L h t a s k || fdOne h t a s L[k]) := by
 unfold fdB
 rw [List.take_succ_eq_append_getElem hk, List.any_append]
 simp
def seqLX : Code → Code
 | .seq a _ => a
 | c => c
def seqRX : Code → Code
 | .seq _ b => b
 | c => c
noncomputable def t14 : Code := (fromRegionN 14 ((Try.f3).body.getD .skip)).getD 0 .skip
noncomputable def t15 : Code := seqRX t14
noncomputable def t17 : Code := seqRX t15
theorem ex_t17 (g off c n k B1 X : Nat) (L : List Fnd) (x0 x1 x2 x3 x4 E h th ad s : Int) (fd : Bool) (W : World) (hk : k < n) (hn9 : n ≤ 1000000) (hn : L.length = n) (hx : L[k]? = some ⟨x0, x1, x2, x3, x4⟩) (hord : L.Pairwise befF) (hv : FndL W (.slice (some ⟨g, off, none⟩) n c) L)
  (hX : W.heap[X]? = some (.cells #[.int .i64 x0, .int .i64 x1, .int .i64 x2, .int .i64 x3, .int .i64 x4] 38)) (hbd : ∀ f ∈ L, 0 ≤ f.hi ∧ f.hi ≤ 10000) (Q : Exit → Act → World → Prop)
  (hQ : ∀ t' W', (∃ u : Nat → Value, t' = #[(u 0), (u 1), (u 2), (u 3), (u 4), .pointer (some ⟨B1, 0, none⟩), (u 6), (u 7), (u 8), (u 9), .bool false, .bool true, .slice (some ⟨g, off, none⟩) n c, .int .i64 E, .int .i64 h, .int .i64 th, .int .i64 ad, .int .i64 s, .bool fd, .int .i64 (k : Int), .pointer (some ⟨X, 0, none⟩), (u 21), (u 22), (u 23), (u 24), (u 25), (u 26), (u 27), (u 28), (u 29), (u 30), (u 31), (u 32), (u 33), (u 34), (u 35), (u 36), (u 37), (u 38), (u 39), (u 40), (u 41), (u 42), (u 43), (u 44), (u 45), (u 46), (u 47), (u 48), (u 49), (u 50), (u 51), (u 52), (u 53), (u 54), (u 55), (u 56), (u 57), (u 58), (u 59), (u 60), (u 61), (u 62), (u 63), (u 64), (u 65), (u 66), (u 67), (u 68), (u 69), (u 70), (u 71), (u 72), (u 73), (u 74), (u 75), (u 76), (u 77), (u 78), (u 79), (u 80), (u 81), (u 82), (u 83), (u 84), (u 85), (u 86), (u 87), (u 88), (u 89), (u 90), (u 91), (u 92), .int .i64 (n : Int), .int .i64 (k : Int), (u 95), (u 96), (u 97), (u 98), (u 99), (u 100), (u 101), (u 102), (u 103), (u 104), (u 105), (u 106), (u 107), (u 108), (u 109), (u 110), (u 111), (u 112), (u 113), (u 114), (u 115), (u 116), (u 117), (u 118), (u 119), (u 120), (u 121), (u 122), (u 123), (u 124), (u 125), (u 126), (u 127), (u 128), (u 129), (u 130), (u 131), (u 132), (u 133), (u 134), (u 135), (u 136), (u 137), (u 138), (u 139), (u 140), (u 141), (u 142), (u 143), (u 144), (u 145), (u 146), (u 147), (u 148), (u 149), (u 150), (u 151), (u 152), (u 153), (u 154), (u 155), (u 156), (u 157), (u 158), (u 159), (u 160), (u 161), (u 162), (u 163), (u 164), (u 165), (u 166), (u 167), (u 168), (u 169), (u 170), (u 171), (u 172), (u 173), (u 174), (u 175), (u 176), (u 177), (u 178), (u 179), (u 180), (u 181), (u 182), (u 183), (u 184), (u 185), (u 186), (u 187), (u 188), (u 189), (u 190), (u 191), (u 192), (u 193), (u 194), (u 195), (u 196), (u 197), (u 198), (u 199), (u 200), (u 201), (u 202), (u 203), (u 204), (u 205), (u 206), (u 207), (u 208), (u 209), (u 210), (u 211), (u 212), (u 213), (u 214), (u 215), (u 216), (u 217), (u 218), (u 219), (u 220), (u 221), (u 222), (u 223), (u 224), (u 225), (u 226), (u 227), (u 228), (u 229), (u 230), (u 231), (u 232), (u 233), (u 234), (u 235), (u 236), (u 237), (u 238), (u 239), (u 240), (u 241), (u 242), (u 243), (u 244), (u 245), (u 246), (u 247), (u 248), (u 249), (u 250), (u 251), (u 252), (u 253), (u 254), (u 255), (u 256), (u 257), (u 258), (u 259), (u 260), (u 261), (u 262), (u 263), (u 264), (u 265), (u 266), (u 267), (u 268), (u 269), (u 270), (u 271), (u 272), (u 273), (u 274)]) → Below W.heap.size W W' → Q .normal { tmps := t', defers := [] } W') (t' : Array Value) (ht : ∃ u : Nat → Value, t' = #[(u 0), (u 1), (u 2), (u 3), (u 4), .pointer (some ⟨B1, 0, none⟩), (u 6), (u 7), (u 8), (u 9), .bool false, .bool true, .slice (some ⟨g, off, none⟩) n c, .int .i64 E, .int .i64 h, .int .i64 th, .int .i64 ad, .int .i64 s, .bool fd, .int .i64 (k : Int), .pointer (some ⟨X, 0, none⟩), (u 21), (u 22), (u 23), (u 24), (u 25), (u 26), (u 27), (u 28), (u 29), (u 30), (u 31), (u 32), (u 33), (u 34), (u 35), (u 36), (u 37), (u 38), (u 39), (u 40), (u 41), (u 42), (u 43), (u 44), (u 45), (u 46), (u 47), (u 48), (u 49), (u 50), (u 51), (u 52), (u 53), (u 54), (u 55), (u 56), (u 57), (u 58), (u 59), (u 60), (u 61), (u 62), (u 63), (u 64), (u 65), (u 66), (u 67), (u 68), (u 69), (u 70), (u 71), (u 72), (u 73), (u 74), (u 75), (u 76), (u 77), (u 78), (u 79), (u 80), (u 81), (u 82), (u 83), (u 84), (u 85), (u 86), (u 87), (u 88), (u 89), (u 90), (u 91), (u 92), .int .i64 (n : Int), .int .i64 (k : Int), (u 95), (u 96), (u 97), (u 98), (u 99), (u 100), (u 101), (u 102), (u 103), (u 104), (u 105), (u 106), (u 107), (u 108), (u 109), (u 110), (u 111), (u 112), (u 113), (u 114), (u 115), (u 116), (u 117), (u 118), (u 119), (u 120), (u 121), (u 122), (u 123), (u 124), (u 125), (u 126), (u 127), (u 128), (u 129), (u 130), (u 131), (u 132), (u 133), (u 134), (u 135), (u 136), (u 137), (u 138), (u 139), (u 140), (u 141), (u 142), (u 143), (u 144), (u 145), (u 146), (u 147), (u 148), (u 149), (u 150), (u 151), (u 152), (u 153), (u 154), (u 155), (u 156), (u 157), (u 158), (u 159), (u 160), (u 161), (u 162), (u 163), (u 164), (u 165), (u 166), (u 167), (u 168), (u 169), (u 170), (u 171), (u 172), (u 173), (u 174), (u 175), (u 176), (u 177), (u 178), (u 179), (u 180), (u 181), (u 182), (u 183), (u 184), (u 185), (u 186), (u 187), (u 188), (u 189), (u 190), (u 191), (u 192), (u 193), (u 194), (u 195), (u 196), (u 197), (u 198), (u 199), (u 200), (u 201), (u 202), (u 203), (u 204), (u 205), (u 206), (u 207), (u 208), (u 209), (u 210), (u 211), (u 212), (u 213), (u 214), (u 215), (u 216), (u 217), (u 218), (u 219), (u 220), (u 221), (u 222), (u 223), (u 224), (u 225), (u 226), (u 227), (u 228), (u 229), (u 230), (u 231), (u 232), (u 233), (u 234), (u 235), (u 236), (u 237), (u 238), (u 239), (u 240), (u 241), (u 242), (u 243), (u 244), (u 245), (u 246), (u 247), (u 248), (u 249), (u 250), (u 251), (u 252), (u 253), (u 254), (u 255), (u 256), (u 257), (u 258), (u 259), (u 260), (u 261), (u 262), (u 263), (u 264), (u 265), (u 266), (u 267), (u 268), (u 269), (u 270), (u 271), (u 272), (u 273), (u 274)]) :
  ∀ K : Act → World → Prop, (∀ a w, (seqRX t17).wp Try.prog Q a w → K a w) → (seqLX t17).wp Try.prog (Exit.then K Q) { tmps := t', defers := [] } W := by
 intro K hK
 obtain ⟨u, rfl⟩ := ht
 conv => arg 2; whnf
 obtain ⟨d0, d1, d2, d3, d4⟩ := pc5 hX
 by_cases h0 : k = 0
 ·subst h0
  have ⟨hn', hx', hord', hv', hX', hbd', hQ'⟩ := hyd7 hn hx hord hv hX hbd hQ
  clear hQ hbd hX hv hord hx hn
  go_wp2
  conv => arg 2; whnf
  go_wp2
  exact hQ'.out _ _ (frame_mkN _ _ (by kernel_rfl)) (Below.refl _ _)
 ·obtain ⟨j, rfl⟩ : ∃ j, k = j + 1 := ⟨k - 1, by omega⟩
  have hjl : j < L.length := by omega
  obtain ⟨b1, o1, z1, heq, hb1l, q0, q1, q2, q3, q4⟩ := FndL.cells hv hjl
  injection heq with e1 e2 e3
  injection e1 with e1
  injection e1 with e1 e4
  subst e1 e4
  obtain ⟨⟨y0, y1, y2, y3, y4⟩, hy⟩ : ∃ y, L[j] = y := ⟨_, rfl⟩
  have hxl : L[j + 1]? = some L[j + 1] := List.getElem?_eq_getElem (by omega)
  rw [hx] at hxl
  injection hxl with hxl
  have hbef := List.pairwise_iff_getElem.1 hord j (j + 1) hjl (by omega) (by omega)
  have hyb := hbd L[j] (List.getElem_mem hjl)
  rw [hy] at q0 q1 q2 q3 q4 hbef hyb
  rw [← hxl] at hbef
  unfold befF at hbef
  dsimp only at q0 q1 q2 q3 q4 hbef hyb
  obtain ⟨Wa, hWa, hba, ka⟩ := newb W (.cells #[.int .i64 y0, .int .i64 y1, .int .i64 y2, .int .i64 y3, .int .i64 y4] 38)
  have kx := blk hba hX
  have i1 : (0 : Int) < (j : Int) + 1 := by omega
  have i2 : (j : Int) < (n : Int) := by omega
  have i3 : (0 : Int) ≤ (j : Int) := by omega
  have i4 : j < n := by omega
  have i5 : (j : Int) ≤ 1000000 := by omega
  obtain ⟨f0, f1, f2, f3, f4⟩ := pc5 ka
  obtain ⟨g0, g1, g2, g3, g4⟩ := pc5 kx
  have hw : IntKind.i64.wrap (y4 + 1) = y4 + 1 := IntWalk.i64_in _ (by omega)
  clear e2 e3
  rcases hbef with h1 | ⟨rfl, h1 | ⟨rfl, h1 | ⟨rfl, h1⟩⟩⟩
  all_goals
   clear hxl hy
   have ⟨hn', hx', hord', hv', hX', hbd', hQ', hba'⟩ := hyd8 hn hx hord hv hX hbd hQ hba
   have ⟨ka', kx', h0'⟩ := hyd3 ka kx h0
   clear h0 kx ka hba hQ hbd hX hv hord hx hn
   go_wp2
   conv => arg 2; whnf
   go_wp2
   exact hQ'.out _ _ (frame_mkN _ _ (by kernel_rfl)) hba'.out
theorem ex_t15 (HA RA : Option Addr) (hc rc hd : Nat) (p : Pic) (V : World) (g off c n k B1 X : Nat) (L : List Fnd) (x0 x1 x2 x3 x4 E h th ad s : Int) (fd : Bool) (W : World) (hk : k < n) (hn9 : n ≤ 1000000) (hn : L.length = n) (hx : L[k]? = some ⟨x0, x1, x2, x3, x4⟩) (hord : L.Pairwise befF) (hv : FndL W (.slice (some ⟨g, off, none⟩) n c) L)
  (hX : W.heap[X]? = some (.cells #[.int .i64 x0, .int .i64 x1, .int .i64 x2, .int .i64 x3, .int .i64 x4] 38)) (hbd : ∀ f ∈ L, 0 ≤ f.hi ∧ f.hi ≤ 10000)
  (hp : W.heap[B1]? = some (.cells #[.slice HA p.hs.length hc, .int .i64 p.tl, .int .i64 p.th, .int .i64 p.al, .int .i64 p.ah, .slice RA p.rds.length rc] 25)) (hx0 : x0 = (hd : Int)) (hdl : hd < p.hs.length) (hx3 : 0 ≤ x3 ∧ x3 ≤ x4 ∧ x4 ≤ 10000)
  (hV : Below V.heap.size V W) (hfit : ∀ W' x, Below V.heap.size V W' → (x = x3 ∨ x = x4) → Calls Try.prog 10 #[.agg #[.slice HA p.hs.length hc, .int .i64 p.tl, .int .i64 p.th, .int .i64 p.al, .int .i64 p.ah, .slice RA p.rds.length rc], .int .i64 x0, .int .i64 x1, .int .i64 x2, .int .i64 x] W' fun e w' => e = .returned (.bool true) ∧ Below W'.heap.size W' w')
  (Q : Exit → Act → World → Prop)
  (hQ : ∀ t' W', (∃ u : Nat → Value, t' = #[(u 0), (u 1), (u 2), (u 3), (u 4), .pointer (some ⟨B1, 0, none⟩), (u 6), (u 7), (u 8), (u 9), .bool false, .bool true, .slice (some ⟨g, off, none⟩) n c, .int .i64 E, .int .i64 h, .int .i64 th, .int .i64 ad, .int .i64 s, .bool fd, .int .i64 (k : Int), .pointer (some ⟨X, 0, none⟩), (u 21), (u 22), (u 23), (u 24), (u 25), (u 26), (u 27), (u 28), (u 29), (u 30), (u 31), (u 32), (u 33), (u 34), (u 35), (u 36), (u 37), (u 38), (u 39), (u 40), (u 41), (u 42), (u 43), (u 44), (u 45), (u 46), (u 47), (u 48), (u 49), (u 50), (u 51), (u 52), (u 53), (u 54), (u 55), (u 56), (u 57), (u 58), (u 59), (u 60), (u 61), (u 62), (u 63), (u 64), (u 65), (u 66), (u 67), (u 68), (u 69), (u 70), (u 71), (u 72), (u 73), (u 74), (u 75), (u 76), (u 77), (u 78), (u 79), (u 80), (u 81), (u 82), (u 83), (u 84), (u 85), (u 86), (u 87), (u 88), (u 89), (u 90), (u 91), (u 92), .int .i64 (n : Int), .int .i64 (k : Int), (u 95), (u 96), (u 97), (u 98), (u 99), (u 100), (u 101), (u 102), (u 103), (u 104), (u 105), (u 106), (u 107), (u 108), (u 109), (u 110), (u 111), (u 112), (u 113), (u 114), (u 115), (u 116), (u 117), (u 118), (u 119), (u 120), (u 121), (u 122), (u 123), (u 124), (u 125), (u 126), (u 127), (u 128), (u 129), (u 130), (u 131), (u 132), (u 133), (u 134), (u 135), (u 136), (u 137), (u 138), (u 139), (u 140), (u 141), (u 142), (u 143), (u 144), (u 145), (u 146), (u 147), (u 148), (u 149), (u 150), (u 151), (u 152), (u 153), (u 154), (u 155), (u 156), (u 157), (u 158), (u 159), (u 160), (u 161), (u 162), (u 163), (u 164), (u 165), (u 166), (u 167), (u 168), (u 169), (u 170), (u 171), (u 172), (u 173), (u 174), (u 175), (u 176), (u 177), (u 178), (u 179), (u 180), (u 181), (u 182), (u 183), (u 184), (u 185), (u 186), (u 187), (u 188), (u 189), (u 190), (u 191), (u 192), (u 193), (u 194), (u 195), (u 196), (u 197), (u 198), (u 199), (u 200), (u 201), (u 202), (u 203), (u 204), (u 205), (u 206), (u 207), (u 208), (u 209), (u 210), (u 211), (u 212), (u 213), (u 214), (u 215), (u 216), (u 217), (u 218), (u 219), (u 220), (u 221), (u 222), (u 223), (u 224), (u 225), (u 226), (u 227), (u 228), (u 229), (u 230), (u 231), (u 232), (u 233), (u 234), (u 235), (u 236), (u 237), (u 238), (u 239), (u 240), (u 241), (u 242), (u 243), (u 244), (u 245), (u 246), (u 247), (u 248), (u 249), (u 250), (u 251), (u 252), (u 253), (u 254), (u 255), (u 256), (u 257), (u 258), (u 259), (u 260), (u 261), (u 262), (u 263), (u 264), (u 265), (u 266), (u 267), (u 268), (u 269), (u 270), (u 271), (u 272), (u 273), (u 274)]) → Below W.heap.size W W' → Q .normal { tmps := t', defers := [] } W') (t' : Array Value) (ht : ∃ u : Nat → Value, t' = #[(u 0), (u 1), (u 2), (u 3), (u 4), .pointer (some ⟨B1, 0, none⟩), (u 6), (u 7), (u 8), (u 9), .bool false, .bool true, .slice (some ⟨g, off, none⟩) n c, .int .i64 E, .int .i64 h, .int .i64 th, .int .i64 ad, .int .i64 s, .bool fd, .int .i64 (k : Int), .pointer (some ⟨X, 0, none⟩), (u 21), (u 22), (u 23), (u 24), (u 25), (u 26), (u 27), (u 28), (u 29), (u 30), (u 31), (u 32), (u 33), (u 34), (u 35), (u 36), (u 37), (u 38), (u 39), (u 40), (u 41), (u 42), (u 43), (u 44), (u 45), (u 46), (u 47), (u 48), (u 49), (u 50), (u 51), (u 52), (u 53), (u 54), (u 55), (u 56), (u 57), (u 58), (u 59), (u 60), (u 61), (u 62), (u 63), (u 64), (u 65), (u 66), (u 67), (u 68), (u 69), (u 70), (u 71), (u 72), (u 73), (u 74), (u 75), (u 76), (u 77), (u 78), (u 79), (u 80), (u 81), (u 82), (u 83), (u 84), (u 85), (u 86), (u 87), (u 88), (u 89), (u 90), (u 91), (u 92), .int .i64 (n : Int), .int .i64 (k : Int), (u 95), (u 96), (u 97), (u 98), (u 99), (u 100), (u 101), (u 102), (u 103), (u 104), (u 105), (u 106), (u 107), (u 108), (u 109), (u 110), (u 111), (u 112), (u 113), (u 114), (u 115), (u 116), (u 117), (u 118), (u 119), (u 120), (u 121), (u 122), (u 123), (u 124), (u 125), (u 126), (u 127), (u 128), (u 129), (u 130), (u 131), (u 132), (u 133), (u 134), (u 135), (u 136), (u 137), (u 138), (u 139), (u 140), (u 141), (u 142), (u 143), (u 144), (u 145), (u 146), (u 147), (u 148), (u 149), (u 150), (u 151), (u 152), (u 153), (u 154), (u 155), (u 156), (u 157), (u 158), (u 159), (u 160), (u 161), (u 162), (u 163), (u 164), (u 165), (u 166), (u 167), (u 168), (u 169), (u 170), (u 171), (u 172), (u 173), (u 174), (u 175), (u 176), (u 177), (u 178), (u 179), (u 180), (u 181), (u 182), (u 183), (u 184), (u 185), (u 186), (u 187), (u 188), (u 189), (u 190), (u 191), (u 192), (u 193), (u 194), (u 195), (u 196), (u 197), (u 198), (u 199), (u 200), (u 201), (u 202), (u 203), (u 204), (u 205), (u 206), (u 207), (u 208), (u 209), (u 210), (u 211), (u 212), (u 213), (u 214), (u 215), (u 216), (u 217), (u 218), (u 219), (u 220), (u 221), (u 222), (u 223), (u 224), (u 225), (u 226), (u 227), (u 228), (u 229), (u 230), (u 231), (u 232), (u 233), (u 234), (u 235), (u 236), (u 237), (u 238), (u 239), (u 240), (u 241), (u 242), (u 243), (u 244), (u 245), (u 246), (u 247), (u 248), (u 249), (u 250), (u 251), (u 252), (u 253), (u 254), (u 255), (u 256), (u 257), (u 258), (u 259), (u 260), (u 261), (u 262), (u 263), (u 264), (u 265), (u 266), (u 267), (u 268), (u 269), (u 270), (u 271), (u 272), (u 273), (u 274)]) :
  t15.wp Try.prog Q { tmps := t', defers := [] } W := by
 obtain ⟨u, rfl⟩ := ht
 conv => arg 2; whnf
 obtain ⟨d0, d1, d2, d3, d4⟩ := pc5 hX
 obtain ⟨c0, c1, c2, c3, c4, c5⟩ := pc6 hp
 obtain ⟨j1, j2, j3⟩ := hx3
 have i1 : (hd : Int) < (p.hs.length : Int) := by omega
 have i0 : (0 : Int) ≤ (hd : Int) := by omega
 have j4 : (0 : Int) ≤ x4 := by omega
 by_cases h12 : k < 12
 ·have h12i : (k : Int) < 12 := by omega
  subst hx0
  have kf1 := hfit W x3 hV (.inl rfl)
  have ⟨hn', hx', hord', hv', hX', hbd', hQ', hp'⟩ := hyd8 hn hx hord hv hX hbd hQ hp
  have ⟨hV', hfit', kf1', hk'⟩ := hyd4 hV hfit kf1 hk
  clear hk kf1 hfit hV hp hQ hbd hX hv hord hx hn
  go_wp2_with (fail)
  go_at_call 10
  refine kf1'.out.mono ?_
  rintro e W2 ⟨rfl, hb2⟩
  have kx2 := blk hb2 hX'.out
  have kp2 := blk hb2 hp'.out
  clear d0 d1 d2 d3 d4 c0 c1 c2 c3 c4 c5
  obtain ⟨d0, d1, d2, d3, d4⟩ := pc5 kx2
  obtain ⟨c0, c1, c2, c3, c4, c5⟩ := pc6 kp2
  have kf2 := hfit'.out W2 x4 (bel_set hV'.out hb2) (.inr rfl)
  have ⟨hb2', kx2', kp2', kf2'⟩ := hyd4 hb2 kx2 kp2 kf2
  clear kf2 kp2 kx2 hb2
  go_wp2_with (fail)
  go_at_call 10
  refine kf2'.out.mono ?_
  rintro e W3 ⟨rfl, hb3⟩
  have hb23 := bel_set hb2'.out hb3
  have kx3 := blk hb3 kx2'.out
  clear d0 d1 d2 d3 d4 c0 c1 c2 c3 c4 c5
  have ⟨hb3', hb23', kx3'⟩ := hyd3 hb3 hb23 kx3
  clear kx3 hb23 hb3
  go_upto_region 17 with (fail)
  exact ex_t17 g off c n k B1 X L _ x1 x2 x3 x4 E h th ad s fd W3 hk'.out hn9 hn'.out hx'.out hord'.out (hv'.out.le hb23'.out) kx3'.out hbd'.out Q (fun t' W' ht hb => hQ'.out t' W' ht (bel_set hb23'.out hb)) _ (frame_mkN _ _ (by kernel_rfl)) _ (by assumption)
 ·have h12i : ¬ (k : Int) < 12 := by omega
  subst hx0
  have ⟨hn', hx', hord', hv', hX', hbd', hQ', hp'⟩ := hyd8 hn hx hord hv hX hbd hQ hp
  have ⟨hV', hfit', hk'⟩ := hyd3 hV hfit hk
  clear hk hfit hV hp hQ hbd hX hv hord hx hn
  go_upto_region 17 with (fail)
  exact ex_t17 g off c n k B1 X L _ x1 x2 x3 x4 E h th ad s fd W hk'.out hn9 hn'.out hx'.out hord'.out hv'.out hX'.out hbd'.out Q hQ'.out _ (frame_mkN _ _ (by kernel_rfl)) _ (by assumption)
theorem ex_t14 (HA RA : Option Addr) (hc rc hd : Nat) (p : Pic) (V : World) (g off c n k B1 X : Nat) (L : List Fnd) (x0 x1 x2 x3 x4 E h th ad s : Int) (fd fe : Bool) (W : World) (hk : k < n) (hn9 : n ≤ 1000000) (hn : L.length = n) (hx : L[k]? = some ⟨x0, x1, x2, x3, x4⟩) (hord : L.Pairwise befF) (hv : FndL W (.slice (some ⟨g, off, none⟩) n c) L)
  (hX : W.heap[X]? = some (.cells #[.int .i64 x0, .int .i64 x1, .int .i64 x2, .int .i64 x3, .int .i64 x4] 38)) (hbd : ∀ f ∈ L, 0 ≤ f.hi ∧ f.hi ≤ 10000)
  (hp : W.heap[B1]? = some (.cells #[.slice HA p.hs.length hc, .int .i64 p.tl, .int .i64 p.th, .int .i64 p.al, .int .i64 p.ah, .slice RA p.rds.length rc] 25)) (hx0 : x0 = (hd : Int)) (hdl : hd < p.hs.length) (hx3 : 0 ≤ x3 ∧ x3 ≤ x4 ∧ x4 ≤ 10000)
  (hV : Below V.heap.size V W) (hfit : ∀ W' x, Below V.heap.size V W' → (x = x3 ∨ x = x4) → Calls Try.prog 10 #[.agg #[.slice HA p.hs.length hc, .int .i64 p.tl, .int .i64 p.th, .int .i64 p.al, .int .i64 p.ah, .slice RA p.rds.length rc], .int .i64 x0, .int .i64 x1, .int .i64 x2, .int .i64 x] W' fun e w' => e = .returned (.bool true) ∧ Below W'.heap.size W' w')
  (hfe : fe = (fd || fdOne h th ad s ⟨x0, x1, x2, x3, x4⟩)) (Q : Exit → Act → World → Prop)
  (hQ : ∀ t' W', (∃ u : Nat → Value, t' = #[(u 0), (u 1), (u 2), (u 3), (u 4), .pointer (some ⟨B1, 0, none⟩), (u 6), (u 7), (u 8), (u 9), .bool false, .bool true, .slice (some ⟨g, off, none⟩) n c, .int .i64 E, .int .i64 h, .int .i64 th, .int .i64 ad, .int .i64 s, .bool fe, .int .i64 (k : Int), .pointer (some ⟨X, 0, none⟩), (u 21), (u 22), (u 23), (u 24), (u 25), (u 26), (u 27), (u 28), (u 29), (u 30), (u 31), (u 32), (u 33), (u 34), (u 35), (u 36), (u 37), (u 38), (u 39), (u 40), (u 41), (u 42), (u 43), (u 44), (u 45), (u 46), (u 47), (u 48), (u 49), (u 50), (u 51), (u 52), (u 53), (u 54), (u 55), (u 56), (u 57), (u 58), (u 59), (u 60), (u 61), (u 62), (u 63), (u 64), (u 65), (u 66), (u 67), (u 68), (u 69), (u 70), (u 71), (u 72), (u 73), (u 74), (u 75), (u 76), (u 77), (u 78), (u 79), (u 80), (u 81), (u 82), (u 83), (u 84), (u 85), (u 86), (u 87), (u 88), (u 89), (u 90), (u 91), (u 92), .int .i64 (n : Int), .int .i64 (k : Int), (u 95), (u 96), (u 97), (u 98), (u 99), (u 100), (u 101), (u 102), (u 103), (u 104), (u 105), (u 106), (u 107), (u 108), (u 109), (u 110), (u 111), (u 112), (u 113), (u 114), (u 115), (u 116), (u 117), (u 118), (u 119), (u 120), (u 121), (u 122), (u 123), (u 124), (u 125), (u 126), (u 127), (u 128), (u 129), (u 130), (u 131), (u 132), (u 133), (u 134), (u 135), (u 136), (u 137), (u 138), (u 139), (u 140), (u 141), (u 142), (u 143), (u 144), (u 145), (u 146), (u 147), (u 148), (u 149), (u 150), (u 151), (u 152), (u 153), (u 154), (u 155), (u 156), (u 157), (u 158), (u 159), (u 160), (u 161), (u 162), (u 163), (u 164), (u 165), (u 166), (u 167), (u 168), (u 169), (u 170), (u 171), (u 172), (u 173), (u 174), (u 175), (u 176), (u 177), (u 178), (u 179), (u 180), (u 181), (u 182), (u 183), (u 184), (u 185), (u 186), (u 187), (u 188), (u 189), (u 190), (u 191), (u 192), (u 193), (u 194), (u 195), (u 196), (u 197), (u 198), (u 199), (u 200), (u 201), (u 202), (u 203), (u 204), (u 205), (u 206), (u 207), (u 208), (u 209), (u 210), (u 211), (u 212), (u 213), (u 214), (u 215), (u 216), (u 217), (u 218), (u 219), (u 220), (u 221), (u 222), (u 223), (u 224), (u 225), (u 226), (u 227), (u 228), (u 229), (u 230), (u 231), (u 232), (u 233), (u 234), (u 235), (u 236), (u 237), (u 238), (u 239), (u 240), (u 241), (u 242), (u 243), (u 244), (u 245), (u 246), (u 247), (u 248), (u 249), (u 250), (u 251), (u 252), (u 253), (u 254), (u 255), (u 256), (u 257), (u 258), (u 259), (u 260), (u 261), (u 262), (u 263), (u 264), (u 265), (u 266), (u 267), (u 268), (u 269), (u 270), (u 271), (u 272), (u 273), (u 274)]) → Below W.heap.size W W' → Q .normal { tmps := t', defers := [] } W') (t' : Array Value) (ht : ∃ u : Nat → Value, t' = #[(u 0), (u 1), (u 2), (u 3), (u 4), .pointer (some ⟨B1, 0, none⟩), (u 6), (u 7), (u 8), (u 9), .bool false, .bool true, .slice (some ⟨g, off, none⟩) n c, .int .i64 E, .int .i64 h, .int .i64 th, .int .i64 ad, .int .i64 s, .bool fd, .int .i64 (k : Int), .pointer (some ⟨X, 0, none⟩), (u 21), (u 22), (u 23), (u 24), (u 25), (u 26), (u 27), (u 28), (u 29), (u 30), (u 31), (u 32), (u 33), (u 34), (u 35), (u 36), (u 37), (u 38), (u 39), (u 40), (u 41), (u 42), (u 43), (u 44), (u 45), (u 46), (u 47), (u 48), (u 49), (u 50), (u 51), (u 52), (u 53), (u 54), (u 55), (u 56), (u 57), (u 58), (u 59), (u 60), (u 61), (u 62), (u 63), (u 64), (u 65), (u 66), (u 67), (u 68), (u 69), (u 70), (u 71), (u 72), (u 73), (u 74), (u 75), (u 76), (u 77), (u 78), (u 79), (u 80), (u 81), (u 82), (u 83), (u 84), (u 85), (u 86), (u 87), (u 88), (u 89), (u 90), (u 91), (u 92), .int .i64 (n : Int), .int .i64 (k : Int), (u 95), (u 96), (u 97), (u 98), (u 99), (u 100), (u 101), (u 102), (u 103), (u 104), (u 105), (u 106), (u 107), (u 108), (u 109), (u 110), (u 111), (u 112), (u 113), (u 114), (u 115), (u 116), (u 117), (u 118), (u 119), (u 120), (u 121), (u 122), (u 123), (u 124), (u 125), (u 126), (u 127), (u 128), (u 129), (u 130), (u 131), (u 132), (u 133), (u 134), (u 135), (u 136), (u 137), (u 138), (u 139), (u 140), (u 141), (u 142), (u 143), (u 144), (u 145), (u 146), (u 147), (u 148), (u 149), (u 150), (u 151), (u 152), (u 153), (u 154), (u 155), (u 156), (u 157), (u 158), (u 159), (u 160), (u 161), (u 162), (u 163), (u 164), (u 165), (u 166), (u 167), (u 168), (u 169), (u 170), (u 171), (u 172), (u 173), (u 174), (u 175), (u 176), (u 177), (u 178), (u 179), (u 180), (u 181), (u 182), (u 183), (u 184), (u 185), (u 186), (u 187), (u 188), (u 189), (u 190), (u 191), (u 192), (u 193), (u 194), (u 195), (u 196), (u 197), (u 198), (u 199), (u 200), (u 201), (u 202), (u 203), (u 204), (u 205), (u 206), (u 207), (u 208), (u 209), (u 210), (u 211), (u 212), (u 213), (u 214), (u 215), (u 216), (u 217), (u 218), (u 219), (u 220), (u 221), (u 222), (u 223), (u 224), (u 225), (u 226), (u 227), (u 228), (u 229), (u 230), (u 231), (u 232), (u 233), (u 234), (u 235), (u 236), (u 237), (u 238), (u 239), (u 240), (u 241), (u 242), (u 243), (u 244), (u 245), (u 246), (u 247), (u 248), (u 249), (u 250), (u 251), (u 252), (u 253), (u 254), (u 255), (u 256), (u 257), (u 258), (u 259), (u 260), (u 261), (u 262), (u 263), (u 264), (u 265), (u 266), (u 267), (u 268), (u 269), (u 270), (u 271), (u 272), (u 273), (u 274)]) :
  ∀ K : Act → World → Prop, (∀ a w, t15.wp Try.prog Q a w → K a w) → (seqLX t14).wp Try.prog (Exit.then K Q) { tmps := t', defers := [] } W := by
 intro K hK
 obtain ⟨u, rfl⟩ := ht
 conv => arg 2; whnf
 obtain ⟨d0, d1, d2, d3, d4⟩ := pc5 hX
 have fin : ∀ u : Nat → Value, t15.wp Try.prog Q { tmps := #[(u 0), (u 1), (u 2), (u 3), (u 4), .pointer (some ⟨B1, 0, none⟩), (u 6), (u 7), (u 8), (u 9), .bool false, .bool true, .slice (some ⟨g, off, none⟩) n c, .int .i64 E, .int .i64 h, .int .i64 th, .int .i64 ad, .int .i64 s, .bool fe, .int .i64 (k : Int), .pointer (some ⟨X, 0, none⟩), (u 21), (u 22), (u 23), (u 24), (u 25), (u 26), (u 27), (u 28), (u 29), (u 30), (u 31), (u 32), (u 33), (u 34), (u 35), (u 36), (u 37), (u 38), (u 39), (u 40), (u 41), (u 42), (u 43), (u 44), (u 45), (u 46), (u 47), (u 48), (u 49), (u 50), (u 51), (u 52), (u 53), (u 54), (u 55), (u 56), (u 57), (u 58), (u 59), (u 60), (u 61), (u 62), (u 63), (u 64), (u 65), (u 66), (u 67), (u 68), (u 69), (u 70), (u 71), (u 72), (u 73), (u 74), (u 75), (u 76), (u 77), (u 78), (u 79), (u 80), (u 81), (u 82), (u 83), (u 84), (u 85), (u 86), (u 87), (u 88), (u 89), (u 90), (u 91), (u 92), .int .i64 (n : Int), .int .i64 (k : Int), (u 95), (u 96), (u 97), (u 98), (u 99), (u 100), (u 101), (u 102), (u 103), (u 104), (u 105), (u 106), (u 107), (u 108), (u 109), (u 110), (u 111), (u 112), (u 113), (u 114), (u 115), (u 116), (u 117), (u 118), (u 119), (u 120), (u 121), (u 122), (u 123), (u 124), (u 125), (u 126), (u 127), (u 128), (u 129), (u 130), (u 131), (u 132), (u 133), (u 134), (u 135), (u 136), (u 137), (u 138), (u 139), (u 140), (u 141), (u 142), (u 143), (u 144), (u 145), (u 146), (u 147), (u 148), (u 149), (u 150), (u 151), (u 152), (u 153), (u 154), (u 155), (u 156), (u 157), (u 158), (u 159), (u 160), (u 161), (u 162), (u 163), (u 164), (u 165), (u 166), (u 167), (u 168), (u 169), (u 170), (u 171), (u 172), (u 173), (u 174), (u 175), (u 176), (u 177), (u 178), (u 179), (u 180), (u 181), (u 182), (u 183), (u 184), (u 185), (u 186), (u 187), (u 188), (u 189), (u 190), (u 191), (u 192), (u 193), (u 194), (u 195), (u 196), (u 197), (u 198), (u 199), (u 200), (u 201), (u 202), (u 203), (u 204), (u 205), (u 206), (u 207), (u 208), (u 209), (u 210), (u 211), (u 212), (u 213), (u 214), (u 215), (u 216), (u 217), (u 218), (u 219), (u 220), (u 221), (u 222), (u 223), (u 224), (u 225), (u 226), (u 227), (u 228), (u 229), (u 230), (u 231), (u 232), (u 233), (u 234), (u 235), (u 236), (u 237), (u 238), (u 239), (u 240), (u 241), (u 242), (u 243), (u 244), (u 245), (u 246), (u 247), (u 248), (u 249), (u 250), (u 251), (u 252), (u 253), (u 254), (u 255), (u 256), (u 257), (u 258), (u 259), (u 260), (u 261), (u 262), (u 263), (u 264), (u 265), (u 266), (u 267), (u 268), (u 269), (u 270), (u 271), (u 272), (u 273), (u 274)], defers := [] } W := fun u =>
  ex_t15 HA RA hc rc hd p V g off c n k B1 X L x0 x1 x2 x3 x4 E h th ad s fe W hk hn9 hn hx hord hv hX hbd hp hx0 hdl hx3 hV hfit Q hQ _ ⟨u, rfl⟩
 have fin2 : ∀ t', (∃ u : Nat → Value, t' = #[(u 0), (u 1), (u 2), (u 3), (u 4), .pointer (some ⟨B1, 0, none⟩), (u 6), (u 7), (u 8), (u 9), .bool false, .bool true, .slice (some ⟨g, off, none⟩) n c, .int .i64 E, .int .i64 h, .int .i64 th, .int .i64 ad, .int .i64 s, .bool fe, .int .i64 (k : Int), .pointer (some ⟨X, 0, none⟩), (u 21), (u 22), (u 23), (u 24), (u 25), (u 26), (u 27), (u 28), (u 29), (u 30), (u 31), (u 32), (u 33), (u 34), (u 35), (u 36), (u 37), (u 38), (u 39), (u 40), (u 41), (u 42), (u 43), (u 44), (u 45), (u 46), (u 47), (u 48), (u 49), (u 50), (u 51), (u 52), (u 53), (u 54), (u 55), (u 56), (u 57), (u 58), (u 59), (u 60), (u 61), (u 62), (u 63), (u 64), (u 65), (u 66), (u 67), (u 68), (u 69), (u 70), (u 71), (u 72), (u 73), (u 74), (u 75), (u 76), (u 77), (u 78), (u 79), (u 80), (u 81), (u 82), (u 83), (u 84), (u 85), (u 86), (u 87), (u 88), (u 89), (u 90), (u 91), (u 92), .int .i64 (n : Int), .int .i64 (k : Int), (u 95), (u 96), (u 97), (u 98), (u 99), (u 100), (u 101), (u 102), (u 103), (u 104), (u 105), (u 106), (u 107), (u 108), (u 109), (u 110), (u 111), (u 112), (u 113), (u 114), (u 115), (u 116), (u 117), (u 118), (u 119), (u 120), (u 121), (u 122), (u 123), (u 124), (u 125), (u 126), (u 127), (u 128), (u 129), (u 130), (u 131), (u 132), (u 133), (u 134), (u 135), (u 136), (u 137), (u 138), (u 139), (u 140), (u 141), (u 142), (u 143), (u 144), (u 145), (u 146), (u 147), (u 148), (u 149), (u 150), (u 151), (u 152), (u 153), (u 154), (u 155), (u 156), (u 157), (u 158), (u 159), (u 160), (u 161), (u 162), (u 163), (u 164), (u 165), (u 166), (u 167), (u 168), (u 169), (u 170), (u 171), (u 172), (u 173), (u 174), (u 175), (u 176), (u 177), (u 178), (u 179), (u 180), (u 181), (u 182), (u 183), (u 184), (u 185), (u 186), (u 187), (u 188), (u 189), (u 190), (u 191), (u 192), (u 193), (u 194), (u 195), (u 196), (u 197), (u 198), (u 199), (u 200), (u 201), (u 202), (u 203), (u 204), (u 205), (u 206), (u 207), (u 208), (u 209), (u 210), (u 211), (u 212), (u 213), (u 214), (u 215), (u 216), (u 217), (u 218), (u 219), (u 220), (u 221), (u 222), (u 223), (u 224), (u 225), (u 226), (u 227), (u 228), (u 229), (u 230), (u 231), (u 232), (u 233), (u 234), (u 235), (u 236), (u 237), (u 238), (u 239), (u 240), (u 241), (u 242), (u 243), (u 244), (u 245), (u 246), (u 247), (u 248), (u 249), (u 250), (u 251), (u 252), (u 253), (u 254), (u 255), (u 256), (u 257), (u 258), (u 259), (u 260), (u 261), (u 262), (u 263), (u 264), (u 265), (u 266), (u 267), (u 268), (u 269), (u 270), (u 271), (u 272), (u 273), (u 274)]) → t15.wp Try.prog Q { tmps := t', defers := [] } W := fun t' ⟨u, e⟩ => by rw [e]; exact fin u
 clear fin hQ hfit
 have hfin := Lib.hid fin2
 clear fin2 hX hbd hp hx0 hdl hV hv hord hx hn hk
 unfold fdOne at hfe
 cases fd with
 | true =>
  obtain rfl : fe = true := by rw [hfe]; rfl
  clear hfe
  go_wp2
  exact hfin.out _ (frame_mkN _ _ (by kernel_rfl))
 | false =>
  rw [Bool.false_or] at hfe
  by_cases a0 : x0 = h
  ·subst a0
   by_cases a1 : x1 = th
   ·subst a1
    by_cases a2 : x2 = ad
    ·subst a2
     by_cases a3 : x3 ≤ s
     ·have a3d : decide (x3 ≤ s) = true := decide_eq_true a3
      by_cases a4 : s ≤ x4
      ·have a4d : decide (s ≤ x4) = true := decide_eq_true a4
       obtain rfl : fe = true := by rw [hfe]; simp [a3, a4]
       clear hfe
       go_wp2
       exact hfin.out _ (frame_mkN _ _ (by kernel_rfl))
      ·have a4d : decide (s ≤ x4) = false := decide_eq_false a4
       obtain rfl : fe = false := by rw [hfe]; simp [a4]
       clear hfe
       go_wp2
       exact hfin.out _ (frame_mkN _ _ (by kernel_rfl))
     ·have a3d : decide (x3 ≤ s) = false := decide_eq_false a3
      obtain rfl : fe = false := by rw [hfe]; simp [a3]
      clear hfe
      go_wp2
      exact hfin.out _ (frame_mkN _ _ (by kernel_rfl))
    ·have a2d : decide (x2 = ad) = false := decide_eq_false a2
     obtain rfl : fe = false := by rw [hfe]; simp [a2]
     clear hfe
     go_wp2
     exact hfin.out _ (frame_mkN _ _ (by kernel_rfl))
   ·have a1d : decide (x1 = th) = false := decide_eq_false a1
    obtain rfl : fe = false := by rw [hfe]; simp [a1]
    clear hfe
    go_wp2
    exact hfin.out _ (frame_mkN _ _ (by kernel_rfl))
  ·have a0d : decide (x0 = h) = false := decide_eq_false a0
   obtain rfl : fe = false := by rw [hfe]; simp [a0]
   clear hfe
   go_wp2
   exact hfin.out _ (frame_mkN _ _ (by kernel_rfl))
end Go.Proofs.Ytjdgkmcmgagkgaa
