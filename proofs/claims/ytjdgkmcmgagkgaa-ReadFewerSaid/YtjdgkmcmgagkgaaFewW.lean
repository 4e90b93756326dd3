/- Fewer and wider readings find no less: the walk of ReadFewer. -/
import Derived.Test.YtjdgkmcmgagkgaaFewA
namespace Go.Proofs.Ytjdgkmcmgagkgaa
set_option maxRecDepth 100000
set_option maxHeartbeats 8000000
open Go.RowKit
set_option linter.unusedVariables false
set_option linter.unusedSimpArgs false
theorem few_t22 (g1 o1 nm c2 X k : Nat) (ct ce : Bool) (x0 x1 x2 x3 x4 y0 y1 y2 y3 y4 : Int) (W : World) (hlt : k < nm)
  (q0 : W.cell? ⟨g1, o1 + k * 5, none⟩ = some (.int .i64 y0)) (q1 : W.cell? ⟨g1, o1 + k * 5 + 1, none⟩ = some (.int .i64 y1)) (q2 : W.cell? ⟨g1, o1 + k * 5 + 2, none⟩ = some (.int .i64 y2)) (q3 : W.cell? ⟨g1, o1 + k * 5 + 3, none⟩ = some (.int .i64 y3)) (q4 : W.cell? ⟨g1, o1 + k * 5 + 4, none⟩ = some (.int .i64 y4))
  (d0 : W.cell? ⟨X, 0, none⟩ = some (.int .i64 x0)) (d1 : W.cell? ⟨X, 1, none⟩ = some (.int .i64 x1)) (d2 : W.cell? ⟨X, 2, none⟩ = some (.int .i64 x2)) (d3 : W.cell? ⟨X, 3, none⟩ = some (.int .i64 x3)) (d4 : W.cell? ⟨X, 4, none⟩ = some (.int .i64 x4))
  (hsu : ce = (ct || ctOne ⟨x0, x1, x2, x3, x4⟩ ⟨y0, y1, y2, y3, y4⟩)) (Q : Exit → Act → World → Prop)
  (hQ : ∀ (nq : Nat) (t' : Array Value), (∃ u : Nat → Value, t' = #[(u 0), (u 1), (u 2), (u 3), (u 4), (u 5), (u 6), (u 7), .bool false, .bool true, (u 10), (u 11), (u 12), (u 13), (u 14), .slice (some ⟨g1, o1, none⟩) nm c2, .int .i64 0, .pointer (some ⟨X, 0, none⟩), .bool ce, .int .i64 (k : Int), (u 20), (u 21), (u 22), (u 23), (u 24), (u 25), (u 26), (u 27), (u 28), (u 29), (u 30), (u 31), (u 32), (u 33), (u 34), (u 35), (u 36), (u 37), (u 38), (u 39), (u 40), (u 41), (u 42), (u 43), (u 44), (u 45), (u 46), (u 47), (u 48), (u 49), (u 50), (u 51), (u 52), (u 53), (u 54), (u 55), (u 56), (u 57), (u 58), (u 59), (u 60), (u 61), (u 62), (u 63), (u 64), (u 65), (u 66), (u 67), (u 68), (u 69), (u 70), (u 71), (u 72), (u 73), (u 74), (u 75), (u 76), (u 77), (u 78), (u 79), (u 80), (u 81), (u 82), (u 83), (u 84), (u 85), (u 86), (u 87), (u 88), (u 89), (u 90), (u 91), (u 92), (u 93), (u 94), (u 95), (u 96), (u 97), (u 98), (u 99), (u 100), (u 101), (u 102), (u 103), (u 104), (u 105), (u 106), (u 107), (u 108), (u 109), (u 110), (u 111), .int .i64 (nm : Int), .int .i64 (k : Int), (u 114), (u 115), (u 116), (u 117), (u 118), (u 119), (u 120), (u 121), (u 122), (u 123), (u 124), (u 125), (u 126), (u 127), (u 128), (u 129), (u 130), (u 131), (u 132), (u 133), (u 134), (u 135), (u 136), (u 137), (u 138), (u 139), (u 140), (u 141), (u 142), (u 143), (u 144), (u 145), (u 146), (u 147), (u 148), (u 149), (u 150), (u 151), (u 152), (u 153), (u 154), (u 155), (u 156), (u 157), (u 158), (u 159), (u 160), (u 161), (u 162), (u 163), (u 164), (u 165), (u 166), (u 167), (u 168), (u 169), (u 170), (u 171), (u 172), (u 173), (u 174), (u 175)]) → Q .normal { tmps := t', defers := [] } (W.drewN nq)) (t' : Array Value) (ht : ∃ u : Nat → Value, t' = #[(u 0), (u 1), (u 2), (u 3), (u 4), (u 5), (u 6), (u 7), .bool false, .bool true, (u 10), (u 11), (u 12), (u 13), (u 14), .slice (some ⟨g1, o1, none⟩) nm c2, .int .i64 0, .pointer (some ⟨X, 0, none⟩), .bool ct, .int .i64 (k : Int), (u 20), (u 21), (u 22), (u 23), (u 24), (u 25), (u 26), (u 27), (u 28), (u 29), (u 30), (u 31), (u 32), (u 33), (u 34), (u 35), (u 36), (u 37), (u 38), (u 39), (u 40), (u 41), (u 42), (u 43), (u 44), (u 45), (u 46), (u 47), (u 48), (u 49), (u 50), (u 51), (u 52), (u 53), (u 54), (u 55), (u 56), (u 57), (u 58), (u 59), (u 60), (u 61), (u 62), (u 63), (u 64), (u 65), (u 66), (u 67), (u 68), (u 69), (u 70), (u 71), (u 72), (u 73), (u 74), (u 75), (u 76), (u 77), (u 78), (u 79), (u 80), (u 81), (u 82), (u 83), (u 84), (u 85), (u 86), (u 87), (u 88), (u 89), (u 90), (u 91), (u 92), (u 93), (u 94), (u 95), (u 96), (u 97), (u 98), (u 99), (u 100), (u 101), (u 102), (u 103), (u 104), (u 105), (u 106), (u 107), (u 108), (u 109), (u 110), (u 111), .int .i64 (nm : Int), .int .i64 (k : Int), (u 114), (u 115), (u 116), (u 117), (u 118), (u 119), (u 120), (u 121), (u 122), (u 123), (u 124), (u 125), (u 126), (u 127), (u 128), (u 129), (u 130), (u 131), (u 132), (u 133), (u 134), (u 135), (u 136), (u 137), (u 138), (u 139), (u 140), (u 141), (u 142), (u 143), (u 144), (u 145), (u 146), (u 147), (u 148), (u 149), (u 150), (u 151), (u 152), (u 153), (u 154), (u 155), (u 156), (u 157), (u 158), (u 159), (u 160), (u 161), (u 162), (u 163), (u 164), (u 165), (u 166), (u 167), (u 168), (u 169), (u 170), (u 171), (u 172), (u 173), (u 174), (u 175)]) :
  fw22.wp Try.prog Q { tmps := t', defers := [] } W := by
 unfold ctOne at hsu
 dsimp only at hsu
 cases ct with
 | true =>
  obtain rfl : ce = true := by rw [hsu]; rfl
  exact few_c0 g1 o1 nm c2 X k x0 x1 x2 x3 x4 y0 y1 y2 y3 y4 W hlt q0 q1 q2 q3 q4 d0 d1 d2 d3 d4 Q hQ t' ht
 | false =>
  rw [Bool.false_or] at hsu
  by_cases a0 : y0 = x0
  ·by_cases a1 : y1 = x1
   ·by_cases a2 : y2 = x2
    ·by_cases a3 : y3 ≤ x3
     ·by_cases a4 : x4 ≤ y4
      ·obtain rfl : ce = true := by rw [hsu]; simp [a0, a1, a2, a3, a4]
       exact few_c6 g1 o1 nm c2 X k x0 x1 x2 x3 x4 y0 y1 y2 y3 y4 W hlt q0 q1 q2 q3 q4 d0 d1 d2 d3 d4 a0 a1 a2 a3 a4 Q hQ t' ht
      ·obtain rfl : ce = false := by rw [hsu]; simp [a4]
       exact few_c5 g1 o1 nm c2 X k x0 x1 x2 x3 x4 y0 y1 y2 y3 y4 W hlt q0 q1 q2 q3 q4 d0 d1 d2 d3 d4 a0 a1 a2 a3 a4 Q hQ t' ht
     ·obtain rfl : ce = false := by rw [hsu]; simp [a3]
      exact few_c4 g1 o1 nm c2 X k x0 x1 x2 x3 x4 y0 y1 y2 y3 y4 W hlt q0 q1 q2 q3 q4 d0 d1 d2 d3 d4 a0 a1 a2 a3 Q hQ t' ht
    ·obtain rfl : ce = false := by rw [hsu]; simp [a2]
     exact few_c3 g1 o1 nm c2 X k x0 x1 x2 x3 x4 y0 y1 y2 y3 y4 W hlt q0 q1 q2 q3 q4 d0 d1 d2 d3 d4 a0 a1 a2 Q hQ t' ht
   ·obtain rfl : ce = false := by rw [hsu]; simp [a1]
    exact few_c2 g1 o1 nm c2 X k x0 x1 x2 x3 x4 y0 y1 y2 y3 y4 W hlt q0 q1 q2 q3 q4 d0 d1 d2 d3 d4 a0 a1 Q hQ t' ht
  ·obtain rfl : ce = false := by rw [hsu]; simp [a0]
   exact few_c1 g1 o1 nm c2 X k x0 x1 x2 x3 x4 y0 y1 y2 y3 y4 W hlt q0 q1 q2 q3 q4 d0 d1 d2 d3 d4 a0 Q hQ t' ht
noncomputable def fw11 : Code := (fromRegionN 11 ((Try.f4).body.getD .skip)).getD 0 .skip
def FwPost (w : World) (e : Ending) (w' : World) : Prop := e = .returned (.bool true) ∧ Below w.heap.size w w'
def FwRel (V : World) (X nm c2 : Nat) (A2 : Option Addr) (M : List Fnd) (x : Fnd) (a : Act) (W : World) : Prop :=
 ∃ (t : Array Value) (k : Nat) (ct : Bool), a = { tmps := t, defers := [] } ∧ (∃ u : Nat → Value, t = #[(u 0), (u 1), (u 2), (u 3), (u 4), (u 5), (u 6), (u 7), .bool false, .bool true, (u 10), (u 11), (u 12), (u 13), (u 14), .slice A2 nm c2, .int .i64 0, .pointer (some ⟨X, 0, none⟩), .bool ct, (u 19), (u 20), (u 21), (u 22), (u 23), (u 24), (u 25), (u 26), (u 27), (u 28), (u 29), (u 30), (u 31), (u 32), (u 33), (u 34), (u 35), (u 36), (u 37), (u 38), (u 39), (u 40), (u 41), (u 42), (u 43), (u 44), (u 45), (u 46), (u 47), (u 48), (u 49), (u 50), (u 51), (u 52), (u 53), (u 54), (u 55), (u 56), (u 57), (u 58), (u 59), (u 60), (u 61), (u 62), (u 63), (u 64), (u 65), (u 66), (u 67), (u 68), (u 69), (u 70), (u 71), (u 72), (u 73), (u 74), (u 75), (u 76), (u 77), (u 78), (u 79), (u 80), (u 81), (u 82), (u 83), (u 84), (u 85), (u 86), (u 87), (u 88), (u 89), (u 90), (u 91), (u 92), (u 93), (u 94), (u 95), (u 96), (u 97), (u 98), (u 99), (u 100), (u 101), (u 102), (u 103), (u 104), (u 105), (u 106), (u 107), (u 108), (u 109), (u 110), (u 111), .int .i64 (nm : Int), .int .i64 (k : Int), (u 114), (u 115), (u 116), (u 117), (u 118), (u 119), (u 120), (u 121), (u 122), (u 123), (u 124), (u 125), (u 126), (u 127), (u 128), (u 129), (u 130), (u 131), (u 132), (u 133), (u 134), (u 135), (u 136), (u 137), (u 138), (u 139), (u 140), (u 141), (u 142), (u 143), (u 144), (u 145), (u 146), (u 147), (u 148), (u 149), (u 150), (u 151), (u 152), (u 153), (u 154), (u 155), (u 156), (u 157), (u 158), (u 159), (u 160), (u 161), (u 162), (u 163), (u 164), (u 165), (u 166), (u 167), (u 168), (u 169), (u 170), (u 171), (u 172), (u 173), (u 174), (u 175)]) ∧ k ≤ nm ∧ ct = ctB M x k ∧ Below V.heap.size V W
theorem few_from11 (a0 : Pic) (w W : World) (A : Option Addr) (vh : Value) (B2 g n n1 c cap m dr wi wh i : Nat) (L : List Fnd) (L1 : List Rd) (hok : PicOk a0) (hf : a0.Fit) (hst : a0.steps ≤ 24) (hdr : dr ≤ 255) (hwi : wi ≤ 255) (hwh : wh ≤ 255)
  (hL : foundL a0 = L) (hn : L.length = n) (hn0 : 0 < n) (hn4 : n ≤ 400) (hL1 : L1 = (if 1 < a0.rds.length then a0.rds.eraseIdx i else a0.rds)) (hi : i < a0.rds.length) (hn1 : L1.length = n1)
  (hB : W.heap[B2]? = some (.cells #[vh, .int .i64 a0.tl, .int .i64 a0.th, .int .i64 a0.al, .int .i64 a0.ah, .slice (some ⟨g, 0, none⟩) n1 cap] 25)) (hown : W.ownsRow m 43 4 (.slice (some ⟨g, 0, none⟩) n1 cap) n1 (L1.flatMap rdEnc))
  (hmB : m ≤ B2) (hwm : w.heap.size ≤ m) (hbw : Below w.heap.size w W)
  (hhd : ∀ V : World, (∀ b, b < m → V.heap[b]? = W.heap[b]?) → W.heap.size ≤ V.heap.size → HeadsL V vh a0.hs) (hfd : ∀ V : World, (∀ b, b < m → V.heap[b]? = W.heap[b]?) → W.heap.size ≤ V.heap.size → FndL V (.slice A n c) L)
  (t : Array Value) (ht : ∃ u : Nat → Value, t = #[(u 0), .int .u8 (dr : Int), .int .u8 (wi : Int), .int .u8 (wh : Int), (u 4), (u 5), (u 6), (u 7), .bool false, .bool true, .slice A n c, .int .i64 0, .pointer (some ⟨B2, 0, none⟩), (u 13), (u 14), (u 15), (u 16), (u 17), (u 18), (u 19), (u 20), (u 21), (u 22), (u 23), (u 24), (u 25), (u 26), (u 27), (u 28), (u 29), (u 30), (u 31), (u 32), (u 33), (u 34), (u 35), (u 36), (u 37), (u 38), (u 39), (u 40), (u 41), (u 42), (u 43), (u 44), (u 45), (u 46), (u 47), (u 48), (u 49), (u 50), (u 51), (u 52), (u 53), (u 54), (u 55), (u 56), (u 57), (u 58), (u 59), (u 60), (u 61), (u 62), (u 63), (u 64), (u 65), (u 66), (u 67), (u 68), (u 69), (u 70), (u 71), (u 72), (u 73), (u 74), (u 75), (u 76), (u 77), (u 78), (u 79), (u 80), (u 81), (u 82), (u 83), (u 84), (u 85), (u 86), (u 87), (u 88), (u 89), (u 90), (u 91), (u 92), (u 93), (u 94), (u 95), (u 96), (u 97), (u 98), (u 99), (u 100), (u 101), (u 102), (u 103), (u 104), (u 105), (u 106), (u 107), (u 108), (u 109), (u 110), (u 111), (u 112), (u 113), (u 114), (u 115), (u 116), (u 117), (u 118), (u 119), (u 120), (u 121), (u 122), (u 123), (u 124), (u 125), (u 126), (u 127), (u 128), (u 129), (u 130), (u 131), (u 132), (u 133), (u 134), (u 135), (u 136), (u 137), (u 138), (u 139), (u 140), (u 141), (u 142), (u 143), (u 144), (u 145), (u 146), (u 147), (u 148), (u 149), (u 150), (u 151), (u 152), (u 153), (u 154), (u 155), (u 156), (u 157), (u 158), (u 159), (u 160), (u 161), (u 162), (u 163), (u 164), (u 165), (u 166), (u 167), (u 168), (u 169), (u 170), (u 171), (u 172), (u 173), (u 174), (u 175)]) :
  ∀ K : Act → World → Prop, (∀ a w1, (seqRF fw11).wp Try.prog (bodyPost Try.prog Try.f4 (FwPost w)) a w1 → K a w1) → (seqLF fw11).wp Try.prog (Exit.then K (bodyPost Try.prog Try.f4 (FwPost w))) { tmps := t, defers := [] } W := by
 intro K hK
 obtain ⟨u, rfl⟩ := ht
 conv => arg 2; whnf
 have hrl := hok.reads
 have hn1b : 1 ≤ n1 ∧ n1 ≤ 60 := by
  rw [← hn1, hL1]
  split
  ·rw [List.length_eraseIdx, if_pos hi]; omega
  ·exact hrl
 obtain ⟨k, hk⟩ : ∃ k, wi % n1 = k := ⟨_, rfl⟩
 have hkl : k < n1 := by rw [← hk]; exact Nat.mod_lt _ (by omega)
 have x1 : (wi : Int).tmod (n1 : Int) = (k : Int) := by rw [← hk]; rfl
 have y1 : (wi : Int) % (n1 : Int) = (k : Int) := by rw [← hk]; rfl
 have r1 : ¬ (n1 : Int) = 0 := by omega
 have r2 : ¬ n1 = 0 := by omega
 have r3 : (0 : Int) < (n1 : Int) := by omega
 have r4 : 0 < n1 := by omega
 have s1 : IntKind.i64.wrap (wi : Int) = (wi : Int) := IntWalk.i64_in _ (by omega)
 have s2 : IntKind.i64.wrap (dr : Int) = (dr : Int) := IntWalk.i64_in _ (by omega)
 have s3 : (0 : Int) ≤ (wi : Int) := by omega
 have s4 : (0 : Int) ≤ (dr : Int) := by omega
 obtain ⟨OH, oc, rfl, -⟩ := (hhd W (fun _ _ => rfl) (Nat.le_refl _)).slice
 have hkL : k < L1.length := by omega
 obtain ⟨⟨rc, rs, lo, hi2⟩, hrr⟩ : ∃ r, L1[k] = r := ⟨_, rfl⟩
 have hrd : (-300000 ≤ lo ∧ lo ≤ hi2 ∧ hi2 ≤ 300000) := by
  have h2 : ∀ r ∈ L1, r ∈ a0.rds := by
   rw [hL1]
   intro r hr
   split at hr
   ·exact List.mem_of_mem_eraseIdx hr
   ·exact hr
  have hm := h2 _ (List.getElem_mem hkL)
  rw [hrr] at hm
  exact (hok.rd _ hm).2.2
 have hgm := (hown.lt g rfl)
 have hcell : ∀ (W2 : World) (j : Nat) (u : Value), W2.ownsRow m 43 4 (.slice (some ⟨g, 0, none⟩) n1 cap) n1 (L1.flatMap rdEnc) → (rdEnc ⟨rc, rs, lo, hi2⟩)[j]? = some u → W2.cell? ⟨g, k * 4 + j, none⟩ = some u := fun W2 j u h hu => by
  rw [← hrr] at hu
  have hj : j < 4 := (List.getElem?_eq_some_iff.1 hu).1
  rw [h.cellAt (k * 4 + j) (by omega)]
  exact flat_get (enc := rdEnc) (k := 4) (fun _ => rfl) L1 k hkL j _ hu
 have q2 := hcell W 2 _ hown rfl
 have q3 := hcell W 3 _ hown rfl
 have f2 := hown.frozenAt (k * 4 + 2)
 obtain ⟨c0, c1, c2, c3, c4, c5⟩ := pc6 hB
 obtain ⟨M, hM⟩ : ∃ M, max (lo - (wi : Int)) (-300000) = M := ⟨_, rfl⟩
 have z1 : IntKind.i64.wrap (lo - (wi : Int)) = lo - (wi : Int) := IntWalk.i64_in _ (by omega)
 have i1 : (0 : Int) ≤ (k : Int) := by omega
 have i2 : (k : Int) < (n1 : Int) := by omega
 have ⟨hok', hf', hst', hL', hn', hL1', hn1', hB'⟩ := hyd8 hok hf hst hL hn hL1 hn1 hB
 have ⟨hown', hbw', hhd', hfd', hk', hrr', hcell', hgm'⟩ := hyd8 hown hbw hhd hfd hk hrr hcell hgm
 clear hgm hcell hrr hk hfd hhd hbw hown hB hn1 hL1 hn hL hst hf hok
 go_wp2_with (fail)
 conv => arg 2; whnf
 go_wp2_with (fail)
 go_region
 have hgB : g ≠ B2 := by
  rintro rfl
  rcases hown'.out.2 with ⟨h', -⟩ | ⟨g', cap', cur, h', -, hg, -⟩
  ·simp at h'
  ·simp only [Value.slice.injEq, Option.some.injEq, Addr.mk.injEq, and_true, true_and] at h'
   obtain ⟨rfl, rfl⟩ := h'
   rw [hB'.out] at hg
   simp at hg
 have hgm := hgm'.out
 have hown2 : ((W.setCell ⟨g, k * 4 + 2, none⟩ (.int .i64 M)).drew).ownsRow m 43 4 (.slice (some ⟨g, 0, none⟩) n1 cap) n1 ((L1.set k ⟨rc, rs, M, hi2⟩).flatMap rdEnc) := by
  have h1 := (hown'.out.stored (k * 4 + 2) (.int .i64 M)).1
  rw [flat_setj (enc := rdEnc) (k := 4) (fun _ => rfl) L1 k hkL 2 (.int .i64 M) ⟨rc, rs, M, hi2⟩ (by decide) (by rw [hrr'.out]; rfl)] at h1
  exact h1
 have hag2 : ∀ b, b ≠ g → ((W.setCell ⟨g, k * 4 + 2, none⟩ (.int .i64 M)).drew).heap[b]? = W.heap[b]? := fun b hb => Below.heap_setCell W ⟨g, k * 4 + 2, none⟩ _ b hb
 have hz2 : ((W.setCell ⟨g, k * 4 + 2, none⟩ (.int .i64 M)).drew).heap.size = W.heap.size := by show (W.setCell _ _).heap.size = _; simp [World.setCell]
 have hb2 : Below m W ((W.setCell ⟨g, k * 4 + 2, none⟩ (.int .i64 M)).drew) := ((Below.refl m W).setCell (p := ⟨g, k * 4 + 2, none⟩) hgm.1 _).drew
 generalize (W.setCell ⟨g, k * 4 + 2, none⟩ (.int .i64 M)).drew = W2 at hown2 hag2 hz2 hb2 ⊢
 have hB2 := (hag2 B2 (Ne.symm hgB)).trans hB'.out
 have q3 : W2.cell? ⟨g, k * 4 + 3, none⟩ = some (.int .i64 hi2) := by
  rw [hown2.cellAt (k * 4 + 3) (by omega)]
  exact flat_get (enc := rdEnc) (k := 4) (fun _ => rfl) (L1.set k ⟨rc, rs, M, hi2⟩) k (by simpa using hkL) 3 _ (by simp [rdEnc])
 have f3 := hown2.frozenAt (k * 4 + 3)
 clear q2 f2 c0 c1 c2 c3 c4 c5 z1 x1 y1 s1
 obtain ⟨c0, c1, c2, c3, c4, c5⟩ := pc6 hB2
 obtain ⟨N, hN⟩ : ∃ M, min (hi2 + (dr : Int)) 300000 = M := ⟨_, rfl⟩
 have z1 : IntKind.i64.wrap (hi2 + (dr : Int)) = hi2 + (dr : Int) := IntWalk.i64_in _ (by omega)
 have hM' := hyd1 hM
 clear hM
 have ⟨hown2', hag2', hz2', hb2', hB2', hgB', hgm'⟩ := hyd7 hown2 hag2 hz2 hb2 hB2 hgB hgm
 clear hgm hgB hB2 hb2 hz2 hag2 hown2
 go_wp2_with (fail)
 go_region
 have hgm := hgm'.out
 have hown3 : ((W2.setCell ⟨g, k * 4 + 3, none⟩ (.int .i64 N)).drew).ownsRow m 43 4 (.slice (some ⟨g, 0, none⟩) n1 cap) n1 ((fewR a0.rds i k (wi : Int) (dr : Int)).flatMap rdEnc) := by
  have h1 := (hown2'.out.stored (k * 4 + 3) (.int .i64 N)).1
  rw [flat_setj (enc := rdEnc) (k := 4) (fun _ => rfl) (L1.set k ⟨rc, rs, M, hi2⟩) k (by simpa using hkL) 3 (.int .i64 N) ⟨rc, rs, M, N⟩ (by decide) (by simp [rdEnc]), List.set_set] at h1
  have h2 : L1.set k ⟨rc, rs, M, N⟩ = fewR a0.rds i k (wi : Int) (dr : Int) := by
   unfold fewR
   rw [← hL1'.out]
   refine set_modify _ _ _ _ hkL ?_
   rw [hrr'.out]
   unfold widR
   rw [hM'.out, hN]
  rw [h2] at h1
  exact h1
 have hag3 : ∀ b, b ≠ g → ((W2.setCell ⟨g, k * 4 + 3, none⟩ (.int .i64 N)).drew).heap[b]? = W2.heap[b]? := fun b hb => Below.heap_setCell W2 ⟨g, k * 4 + 3, none⟩ _ b hb
 have hz3 : ((W2.setCell ⟨g, k * 4 + 3, none⟩ (.int .i64 N)).drew).heap.size = W2.heap.size := by show (W2.setCell _ _).heap.size = _; simp [World.setCell]
 have hb3 : Below m W2 ((W2.setCell ⟨g, k * 4 + 3, none⟩ (.int .i64 N)).drew) := ((Below.refl m W2).setCell (p := ⟨g, k * 4 + 3, none⟩) hgm.1 _).drew
 generalize (W2.setCell ⟨g, k * 4 + 3, none⟩ (.int .i64 N)).drew = W3 at hown3 hag3 hz3 hb3 ⊢
 have hB3 := (hag3 B2 (Ne.symm hgB'.out)).trans hB2'.out
 clear q3 f3 c0 c1 c2 c3 c4 c5 z1 s2
 obtain ⟨c0, c1, c2, c3, c4, c5⟩ := pc6 hB3
 have hag : ∀ b, b < m → W3.heap[b]? = W.heap[b]? := fun b hb => (hag3 b (by omega)).trans (hag2'.out b (by omega))
 have hz : W.heap.size ≤ W3.heap.size := by have := hz2'.out; omega
 have hbw3 : Below w.heap.size w W3 := hbw'.out.trans ((hb2'.out.trans hb3).mono hwm)
 have hlen : (fewR a0.rds i k (wi : Int) (dr : Int)).length = n1 := by rw [fewR_length, ← hL1'.out, hn1'.out]
 obtain ⟨R, hR⟩ : ∃ R, fewR a0.rds i k (wi : Int) (dr : Int) = R := ⟨_, rfl⟩
 have hok3 := few_ok (k := k) (lo := (wi : Int)) (hi := (dr : Int)) hok'.out s3 s4 hi
 have hmore := fun x => @found_few a0 hok'.out i k (wi : Int) (dr : Int) s3 s4 x
 rw [hR] at hok3 hmore hlen hown3
 have hrd3 : RdsL W3 (.slice (some ⟨g, 0, none⟩) n1 cap) R := SV.of_own (base := m) (e := 43) (enc := rdEnc) (k := 4) (fun _ => rfl) (by rw [hlen]; exact hown3)
 have hpic : IsPic W3 (.agg #[.slice OH a0.hs.length oc, .int .i64 a0.tl, .int .i64 a0.th, .int .i64 a0.al, .int .i64 a0.ah, .slice (some ⟨g, 0, none⟩) n1 cap]) (a0.with R) := ⟨_, _, rfl, hhd'.out W3 hag hz, hrd3⟩
 have hfR : (a0.with R).Fit := ⟨hf'.out.tl, hf'.out.th, hf'.out.al, hf'.out.ah, fun r hr => by
  obtain ⟨h1, h2, h3, h4, h5⟩ := hok3.rd r hr
  have := hok3.steps
  unfold fit64
  omega, hf'.out.hs⟩
 have kfi := pf_rd_Find _ _ W3 hpic hfR hst'.out
 have hfc := find_cases (picB_iff.2 hok3)
 have hfv3 := hfd'.out W3 hag hz
 obtain ⟨E2, hE2⟩ : ∃ E, findE (a0.with R) = E := ⟨_, rfl⟩
 rw [hE2] at kfi hfc
 clear hrd3
 have ⟨hown3', hag3', hz3', hb3', hB3', hag', hz', hbw3'⟩ := hyd8 hown3 hag3 hz3 hb3 hB3 hag hz hbw3
 have ⟨hR', hok3', hmore', hpic', hfR', kfi', hfc', hfv3'⟩ := hyd8 hR hok3 hmore hpic hfR kfi hfc hfv3
 have ⟨hE2', hN', hlen'⟩ := hyd3 hE2 hN hlen
 clear hlen hN hE2 hfv3 hfc kfi hfR hpic hmore hok3 hR hbw3 hz hag hB3 hb3 hz3 hag3 hown3
 go_wp2_with (fail)
 go_at_call 9
 refine kfi'.out.mono ?_
 rintro e W4 ⟨vf, rfl, hb4, hfq⟩
 have hbw4 := bel_set hbw3'.out hb4
 rcases hfc'.out with rfl | ⟨hE3, hLq, h400⟩
 ·have ⟨hfq', hb4', hbw4'⟩ := hyd3 hfq hb4 hbw4
  clear hbw4 hb4 hfq
  go_wp2
  go_ret
  exact ⟨rfl, hbw4'.out⟩
 ·rw [hLq] at hfq
  obtain ⟨j, hj⟩ : ∃ j, wh % n = j := ⟨_, rfl⟩
  have hjn : j < n := by rw [← hj]; exact Nat.mod_lt _ hn0
  have hjl : j < L.length := by rw [hn'.out]; exact hjn
  have hfv4 := hfv3'.out.le hb4
  obtain ⟨gl, ol, zl, heq, hgl, q0, q1, q2, q3, q4⟩ := FndL.cells hfv4 hjl
  rw [hn'.out] at heq
  injection heq with e1 e2 e3
  subst e1 e3
  clear e2
  obtain ⟨xx, hxx⟩ : ∃ x, L[j] = x := ⟨_, rfl⟩
  have hmx := hmore'.out xx (by rw [hL'.out, ← hxx]; exact List.getElem_mem hjl)
  rw [hxx] at q0 q1 q2 q3 q4
  obtain ⟨M9, hM9⟩ : ∃ M, foundL (a0.with R) = M := ⟨_, rfl⟩
  rw [hM9] at hmx hE3 hfq h400
  have hct := ctB_all hmx
  have hE0 : E2 = 0 := by
   rcases hE3 with ⟨h1, -⟩ | ⟨-, h1⟩
   ·exact h1
   ·obtain ⟨m9, hm9, -⟩ := hmx
    rw [List.eq_nil_of_length_eq_zero h1] at hm9
    cases hm9
  subst hE0
  obtain ⟨x0, x1, x2, x3, x4⟩ := xx
  dsimp only at q0 q1 q2 q3 q4
  obtain ⟨A2, c2, hv9, -⟩ := hfq.slice
  obtain ⟨nm, hnm⟩ : ∃ n, M9.length = n := ⟨_, rfl⟩
  rw [hnm] at hv9 h400 hct
  subst hv9
  obtain ⟨W5, hW5, hb5, k5⟩ := newb W4 (.cells #[.int .i64 x0, .int .i64 x1, .int .i64 x2, .int .i64 x3, .int .i64 x4] 38)
  have hbw5 := bel_set hbw4 hb5
  have hfq5 := hfq.le hb5
  have X1 : (wh : Int).tmod (n : Int) = (j : Int) := by rw [← hj]; rfl
  have Y1 : (wh : Int) % (n : Int) = (j : Int) := by rw [← hj]; rfl
  have R1 : ¬ (n : Int) = 0 := by omega
  have R2 : ¬ n = 0 := by omega
  have R3 : (0 : Int) < (n : Int) := by omega
  have S1 : IntKind.i64.wrap (wh : Int) = (wh : Int) := IntWalk.i64_in _ (by omega)
  have S3 : (0 : Int) ≤ (wh : Int) := by omega
  have I1 : (0 : Int) ≤ (j : Int) := by omega
  have I2 : (j : Int) < (n : Int) := by omega
  clear hmx hE3
  have ⟨hfq', hb4', hbw4', hLq', hfv4', hct', hxx', hM9'⟩ := hyd8 hfq hb4 hbw4 hLq hfv4 hct hxx hM9
  have ⟨hnm', hb5', k5', hbw5', hfq5', hj'⟩ := hyd6 hnm hb5 k5 hbw5 hfq5 hj
  clear hj hfq5 hbw5 k5 hb5 hnm hM9 hxx hct hfv4 hLq hbw4 hb4 hfq
  go_wp2_with (fail)
  clear hW5 q0 q1 q2 q3 q4 X1 Y1 R1 R2 R3 S1 S3
  refine wp_loop (FwRel W5 W4.heap.size nm c2 A2 M9 ⟨x0, x1, x2, x3, x4⟩) (fun a _ => nm - (intOf (a.tmps.getD 113 undef)).toNat) ?start ?round
  case start => exact ⟨_, 0, false, rfl, frame_mkN _ _ (by kernel_rfl), Nat.zero_le _, rfl, Below.refl _ _⟩
  case round =>
   rintro a W6 ⟨t, k, ct, rfl, ⟨u, rfl⟩, hk, hcte, hb6⟩
   by_cases hlt : k < nm
   ·have hkl : k < M9.length := by rw [hnm'.out]; exact hlt
    have hfq6 := hfq5'.out.le hb6
    obtain ⟨g1, o1, z1, heq, hg1, q0, q1, q2, q3, q4⟩ := FndL.cells hfq6 hkl
    rw [hnm'.out] at heq
    injection heq with e1 e2 e3
    subst e1 e3
    clear e2
    have hsu := ctB_succ (x := ⟨x0, x1, x2, x3, x4⟩) hkl
    obtain ⟨⟨y0, y1, y2, y3, y4⟩, hy⟩ : ∃ y, M9[k] = y := ⟨_, rfl⟩
    rw [hy] at q0 q1 q2 q3 q4 hsu
    rw [← hcte] at hsu
    dsimp only at q0 q1 q2 q3 q4
    have k6 := blk hb6 k5'.out
    obtain ⟨d0, d1, d2, d3, d4⟩ := pc5 k6
    have j3 : (k : Int) < (nm : Int) := by omega
    have j4 : (0 : Int) ≤ (k : Int) := by omega
    obtain ⟨ce, hce⟩ : ∃ b, ctB M9 ⟨x0, x1, x2, x3, x4⟩ (k + 1) = b := ⟨_, rfl⟩
    rw [hce] at hsu
    have fin : ∀ (nq : Nat) (t : Array Value), (∃ u : Nat → Value, t = #[(u 0), (u 1), (u 2), (u 3), (u 4), (u 5), (u 6), (u 7), .bool false, .bool true, (u 10), (u 11), (u 12), (u 13), (u 14), .slice (some ⟨g1, o1, none⟩) nm c2, .int .i64 0, .pointer (some ⟨W4.heap.size, 0, none⟩), .bool ce, (u 19), (u 20), (u 21), (u 22), (u 23), (u 24), (u 25), (u 26), (u 27), (u 28), (u 29), (u 30), (u 31), (u 32), (u 33), (u 34), (u 35), (u 36), (u 37), (u 38), (u 39), (u 40), (u 41), (u 42), (u 43), (u 44), (u 45), (u 46), (u 47), (u 48), (u 49), (u 50), (u 51), (u 52), (u 53), (u 54), (u 55), (u 56), (u 57), (u 58), (u 59), (u 60), (u 61), (u 62), (u 63), (u 64), (u 65), (u 66), (u 67), (u 68), (u 69), (u 70), (u 71), (u 72), (u 73), (u 74), (u 75), (u 76), (u 77), (u 78), (u 79), (u 80), (u 81), (u 82), (u 83), (u 84), (u 85), (u 86), (u 87), (u 88), (u 89), (u 90), (u 91), (u 92), (u 93), (u 94), (u 95), (u 96), (u 97), (u 98), (u 99), (u 100), (u 101), (u 102), (u 103), (u 104), (u 105), (u 106), (u 107), (u 108), (u 109), (u 110), (u 111), .int .i64 (nm : Int), .int .i64 ((k + 1 : Nat) : Int), (u 114), (u 115), (u 116), (u 117), (u 118), (u 119), (u 120), (u 121), (u 122), (u 123), (u 124), (u 125), (u 126), (u 127), (u 128), (u 129), (u 130), (u 131), (u 132), (u 133), (u 134), (u 135), (u 136), (u 137), (u 138), (u 139), (u 140), (u 141), (u 142), (u 143), (u 144), (u 145), (u 146), (u 147), (u 148), (u 149), (u 150), (u 151), (u 152), (u 153), (u 154), (u 155), (u 156), (u 157), (u 158), (u 159), (u 160), (u 161), (u 162), (u 163), (u 164), (u 165), (u 166), (u 167), (u 168), (u 169), (u 170), (u 171), (u 172), (u 173), (u 174), (u 175)]) → FwRel W5 W4.heap.size nm c2 (some ⟨g1, o1, none⟩) M9 ⟨x0, x1, x2, x3, x4⟩ { tmps := t, defers := [] } (W6.drewN nq) := fun nq t ht => ⟨t, k + 1, ce, rfl, ht, by omega, hce.symm, below_drewN' hb6 nq⟩
    clear hcte hy k6 hk
    have ⟨hb6', hfq6', hce', fin'⟩ := hyd4 hb6 hfq6 hce fin
    clear fin hce hfq6 hb6
    have hsu' := hyd1 hsu
    clear hsu
    go_upto_region 22 with (fail)
    refine few_t22 g1 o1 nm c2 W4.heap.size k ct ce x0 x1 x2 x3 x4 y0 y1 y2 y3 y4 W6 hlt q0 q1 q2 q3 q4 d0 d1 d2 d3 d4 hsu'.out _ ?_ _ (frame_mkN _ _ (by kernel_rfl))
    rintro nq _ ⟨u, rfl⟩
    clear q0 q1 q2 q3 q4 d0 d1 d2 d3 d4
    go_wp2
    exact ⟨fin'.out nq _ (frame_mkN _ _ (by kernel_rfl)), by simp [intOf]; omega⟩
   ·obtain rfl : k = nm := by omega
    obtain rfl : ct = true := by rw [hcte]; exact hct'.out
    have hbw6 := bel_set hbw5'.out hb6
    clear hcte
    have ⟨hb6', hbw6'⟩ := hyd2 hb6 hbw6
    clear hbw6 hb6
    go_wp2
    go_ret
    exact ⟨rfl, hbw6'.out⟩
end Go.Proofs.Ytjdgkmcmgagkgaa
