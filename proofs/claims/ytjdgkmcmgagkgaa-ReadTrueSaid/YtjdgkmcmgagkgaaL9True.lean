/- What is found contains the truth: the law ReadTrue. -/
import Derived.Test.YtjdgkmcmgagkgaaTrueW
import Derived.Test.YtjdgkmcmgagkgaaRdAlv
namespace Go.Proofs.Ytjdgkmcmgagkgaa
set_option maxRecDepth 100000
set_option maxHeartbeats 4000000
open Go.RowKit
set_option linter.unusedVariables false
set_option linter.unusedSimpArgs false
def OwnI (L : List Fnd) (p : Prog) (hd : Int) (k : Nat) (f : Fnd) : Prop := (f = ⟨-1, 0, 0, 0, 0⟩ ∧ ∀ x ∈ L.take k, ownB p hd x = false) ∨ (f ∈ L ∧ ownB p hd f = true)
theorem OwnI.no {L : List Fnd} {p : Prog} {hd : Int} {k : Nat} {f : Fnd} (h : OwnI L p hd k f) (hk : k < L.length) (hb : ownB p hd L[k] = false) : OwnI L p hd (k + 1) f := by
 rcases h with ⟨e, h⟩ | h
 ·refine .inl ⟨e, fun x hx => ?_⟩
  rw [List.take_succ_eq_append_getElem hk] at hx
  rcases List.mem_append.1 hx with hx | hx
  ·exact h x hx
  ·rw [List.mem_singleton] at hx; rw [hx]; exact hb
 ·exact .inr h
theorem OwnI.end {L : List Fnd} {p : Prog} {hd : Int} {f : Fnd} (h : OwnI L p hd L.length f) (hx : ∃ x ∈ L, ownB p hd x = true) : f ∈ L ∧ ownB p hd f = true := by
 rcases h with ⟨-, h⟩ | h
 ·obtain ⟨x, hx, hb⟩ := hx
  rw [List.take_length] at h
  rw [h x hx] at hb
  cases hb
 ·exact h
theorem bytes_of {w : World} {v : Value} {xs : List Int} (h : Arr (Value.int .u8) w v xs) (hw : ∀ n ∈ xs, (Lit.int .u8 n).wf = true) : Bytes w v (xs.map Int.toNat) ∧ ∀ b ∈ xs.map Int.toNat, b ≤ 255 := by
 have hb : ∀ n ∈ xs, 0 ≤ n ∧ n ≤ 255 := fun n hn => by
  have h' : IntKind.u8.min ≤ n ∧ n ≤ IntKind.u8.max := by simpa [Lit.wf] using hw n hn
  exact h'
 constructor
 ·obtain ⟨A, c, rfl, h1, h2, h3, h4⟩ := h
  refine ⟨A, c, by simp, by simpa using h1, h2, h3, fun h0 => ?_⟩
  obtain ⟨b, off, e, hbl, hc⟩ := h4 (by simpa using h0)
  refine ⟨b, off, e, hbl, fun j hj => ?_⟩
  have hj2 : j < xs.length := by simpa using hj
  rw [hc j hj2, List.getElem_map]
  have := hb xs[j] (List.getElem_mem hj2)
  show some (Value.int .u8 xs[j]) = some (Value.int .u8 ((xs[j].toNat : Nat) : Int))
  rw [Int.toNat_of_nonneg this.1]
 ·intro b hb2
  obtain ⟨n, hn, rfl⟩ := List.mem_map.1 hb2
  have := hb n hn
  omega
def TrRel1 (V : World) (B1 B2 B3 n c : Nat) (A : Option Addr) (L : List Fnd) (p : Prog) (hd : Int) (a : Act) (W : World) : Prop :=
 ∃ (t : Array Value) (k : Nat) (f : Fnd), a = { tmps := t, defers := [] } ∧ (∃ u : Nat → Value, t = #[(u 0), (u 1), (u 2), (u 3), (u 4), .pointer (some ⟨B1, 0, none⟩), (u 6), (u 7), (u 8), (u 9), .bool false, .bool true, .pointer (some ⟨B2, 0, none⟩), (u 13), .slice A n c, (u 15), (u 16), (u 17), .pointer (some ⟨B3, 0, none⟩), (u 19), (u 20), (u 21), (u 22), (u 23), (u 24), (u 25), (u 26), (u 27), (u 28), (u 29), (u 30), (u 31), (u 32), (u 33), (u 34), (u 35), (u 36), (u 37), (u 38), (u 39), (u 40), (u 41), (u 42), (u 43), (u 44), (u 45), (u 46), (u 47), (u 48), (u 49), (u 50), (u 51), (u 52), (u 53), (u 54), (u 55), (u 56), (u 57), (u 58), (u 59), (u 60), (u 61), (u 62), (u 63), (u 64), (u 65), (u 66), (u 67), (u 68), (u 69), (u 70), (u 71), (u 72), (u 73), (u 74), (u 75), (u 76), (u 77), (u 78), (u 79), (u 80), (u 81), (u 82), (u 83), (u 84), (u 85), (u 86), (u 87), (u 88), (u 89), (u 90), (u 91), (u 92), (u 93), (u 94), .int .i64 (n : Int), .int .i64 (k : Int), (u 97), (u 98), (u 99), (u 100), (u 101), (u 102), (u 103), (u 104), (u 105), (u 106), (u 107), (u 108), (u 109), (u 110), (u 111), (u 112), (u 113), (u 114), (u 115), (u 116), (u 117), (u 118), (u 119), (u 120), (u 121), (u 122), (u 123), (u 124), (u 125), (u 126), (u 127), (u 128), (u 129), (u 130), (u 131), (u 132), (u 133), (u 134), (u 135), (u 136), (u 137), (u 138), (u 139), (u 140), (u 141), (u 142), (u 143), (u 144), (u 145), (u 146), (u 147), (u 148), (u 149), (u 150), (u 151), (u 152), (u 153), (u 154), (u 155), (u 156), (u 157), (u 158), (u 159), (u 160), (u 161), (u 162), (u 163), (u 164), (u 165), (u 166), (u 167), (u 168), (u 169), (u 170), (u 171), (u 172), (u 173), (u 174), (u 175), (u 176), (u 177), (u 178), (u 179), (u 180), (u 181), (u 182), (u 183), (u 184), (u 185), (u 186), (u 187), (u 188), (u 189), (u 190), (u 191), (u 192), (u 193), (u 194), (u 195), (u 196), (u 197), (u 198), (u 199), (u 200), (u 201), (u 202), (u 203), (u 204), (u 205), (u 206), (u 207), (u 208), (u 209), (u 210), (u 211), (u 212), (u 213), (u 214), (u 215), (u 216), (u 217), (u 218), (u 219), (u 220), (u 221), (u 222), (u 223), (u 224), (u 225), (u 226), (u 227), (u 228), (u 229), (u 230), (u 231), (u 232), (u 233), (u 234), (u 235), (u 236), (u 237), (u 238), (u 239), (u 240), (u 241), (u 242), (u 243), (u 244), (u 245)]) ∧ k ≤ n ∧ Hid (Below V.heap.size V W) ∧ Hid (W.heap[B3]? = some (.cells #[.int .i64 f.head, .int .i64 f.throw, .int .i64 f.adv, .int .i64 f.lo, .int .i64 f.hi] 38)) ∧ Hid (OwnI L p hd k f)
theorem l9_true (p : Prog) (x0 xo xs : Value) (other : List Int) (sm : List Nat) (cu no : Nat) (w : World) (hv : IsProg w x0 p) (hpf : p.fits) (ho : Ints w xo other) (hof : ∀ x ∈ other, fit64 x) (hs : Bytes w xs sm) (h8 : ∀ b ∈ sm, b ≤ 255) (hcu : cu ≤ 255) (hno : no ≤ 255) :
  Calls Try.prog 5 #[x0, xo, .int .u8 (cu : Int), .int .u8 (no : Int), xs] w (TrPost w) := by
 have hv9 := hv
 obtain ⟨v0, v1, v5, rfl, h0, h1, h5⟩ := hv
 obtain ⟨A0, c0, rfl, -⟩ := id h0
 obtain ⟨A1, c1, rfl, -⟩ := id h1
 obtain ⟨A5, c5, rfl, -⟩ := id h5
 obtain ⟨AX, cX, rfl, -⟩ := id ho
 obtain ⟨AS, cS, rfl, -⟩ := id hs
 obtain ⟨rl, hrl⟩ : ∃ n, p.ros.length = n := ⟨_, rfl⟩
 obtain ⟨bl, hbl⟩ : ∃ n, p.rub.length = n := ⟨_, rfl⟩
 obtain ⟨sl, hsl⟩ : ∃ n, p.shifts.length = n := ⟨_, rfl⟩
 obtain ⟨ml, hml⟩ : ∃ n, sm.length = n := ⟨_, rfl⟩
 obtain ⟨ol, hol⟩ : ∃ n, other.length = n := ⟨_, rfl⟩
 rw [hrl, hbl, hsl] at hv9 ⊢
 rw [hml] at hs ⊢
 rw [hol] at ho ⊢
 obtain ⟨W1, hW1, hb1, k1⟩ := newb w (.cells #[.slice A0 rl c0, .slice A1 bl c1, .int .i64 p.start, .int .i64 p.throw, .int .i64 p.adv, .slice A5 sl c5] 46)
 have kal := fun W => pf_l9_alive W
 have ⟨hv9', h0', h1', h5', ho', hs', h8', hb1'⟩ := hyd8 hv9 h0 h1 h5 ho hs h8 hb1
 have ⟨k1', kal', hpf', hof', hrl', hbl', hsl', hml'⟩ := hyd8 k1 kal hpf hof hrl hbl hsl hml
 have hol' := hyd1 hol
 clear hol hml hsl hbl hrl hof hpf kal k1 hb1 h8 hs ho h5 h1 h0 hv9
 go_enter Try.func5, Try.ntmps5
 go_wp2_with (fail)
 clear hW1
 go_at_call 6
 refine (kal'.out W1).mono ?_
 rintro e W2 ⟨rfl, hb2⟩
 have hbw2 := bel_set hb1'.out hb2
 have k2 := blk hb2 k1'.out
 obtain ⟨c0', c1', c2', c3', c4', c5'⟩ := pc6 k2
 have ⟨hb2', hbw2', k2'⟩ := hyd3 hb2 hbw2 k2
 clear k2 hbw2 hb2
 by_cases hbig : 10 < rl ∨ 10 < bl ∨ 12 < sl ∨ 60 < ml ∨ 6 < cu
 ·have hcase : (10 : Int) < (rl : Int) ∨ (¬ (10 : Int) < (rl : Int) ∧ (10 : Int) < (bl : Int)) ∨ (¬ (10 : Int) < (rl : Int) ∧ ¬ (10 : Int) < (bl : Int) ∧ (12 : Int) < (sl : Int)) ∨ (¬ (10 : Int) < (rl : Int) ∧ ¬ (10 : Int) < (bl : Int) ∧ ¬ (12 : Int) < (sl : Int) ∧ (60 : Int) < (ml : Int)) ∨ (¬ (10 : Int) < (rl : Int) ∧ ¬ (10 : Int) < (bl : Int) ∧ ¬ (12 : Int) < (sl : Int) ∧ ¬ (60 : Int) < (ml : Int) ∧ (6 : Int) < (cu : Int)) := by omega
  clear hbig
  rcases hcase with h | ⟨h, g⟩ | ⟨h, g, i⟩ | ⟨h, g, i, j⟩ | ⟨h, g, i, j, l⟩
  all_goals
   go_wp2
   go_ret
   exact ⟨rfl, hbw2'.out⟩
 have g1 : ¬ (10 : Int) < (rl : Int) := by omega
 have g2 : ¬ (10 : Int) < (bl : Int) := by omega
 have g3 : ¬ (12 : Int) < (sl : Int) := by omega
 have g4 : ¬ (60 : Int) < (ml : Int) := by omega
 have g5 : ¬ (6 : Int) < (cu : Int) := by omega
 clear hbig
 have s1 : IntKind.i64.wrap (cu : Int) = (cu : Int) := IntWalk.i64_in _ (by omega)
 have s2 : IntKind.i64.wrap (no : Int) = (no : Int) := IntWalk.i64_in _ (by omega)
 have hadv : fit64 p.adv := fit_of_wf hpf'.out.2.2.2.2.2
 have kpi := pf_l9_picture _ _ _ p other sm (cu : Int) (no : Int) W2 (hv9'.out.below hbw2'.out) (ho'.out.below hbw2'.out) (hs'.out.below hbw2'.out) h8'.out (by have := hml'.out; omega) (by unfold fit64; omega) (by unfold fit64; omega) hadv
 have ⟨kpi', hadv'⟩ := hyd2 kpi hadv
 clear hadv kpi
 go_wp2_with (fail)
 go_at_call 12
 refine kpi'.out.mono ?_
 rintro e W3 ⟨vq, b, rfl, hb3, hbq, ⟨QH, nh, oc, t1, t2, t3, t4, QR, qr, qc, rfl⟩, hpic⟩
 have hbw3 := bel_set hbw2'.out hb3
 have k3 := blk hb3 k2'.out
 obtain ⟨W4, hW4, hb4, k4⟩ := newb W3 (.cells #[.slice QH nh oc, .int .i64 t1, .int .i64 t2, .int .i64 t3, .int .i64 t4, .slice QR qr qc] 25)
 have hbw4 := bel_set hbw3 hb4
 have k34 := blk hb4 k3
 cases b with
 | false =>
  clear c0' c1' c2' c3' c4' c5'
  have ⟨hb3', hbw3', k3', hb4', hbw4', k4', k34', hbq'⟩ := hyd8 hb3 hbw3 k3 hb4 hbw4 k4 k34 hbq
  have hpic' := hyd1 hpic
  clear hpic hbq k34 k4 hbw4 hb4 k3 hbw3 hb3
  go_wp2
  go_ret
  exact ⟨rfl, hbw4'.out⟩
 | true =>
  have hT := trueIn hbq.symm h8'.out
  have hpq := (hpic rfl).le hb4
  obtain ⟨q, hq⟩ : ∃ q, picP p other (cu : Int) (no : Int) sm = q := ⟨_, rfl⟩
  have hqF := true_Fit (other := other) hT hpf'.out hof'.out
  have hqO := true_ok other hT
  have hfi := true_find other hT
  have hco := true_conf other hT
  have how := true_own other hT
  have hqs := true_steps other hT
  have hla := (true_last p other (cu : Int) (no : Int) sm).1
  rw [hq] at hqF hqO hfi hco how hqs hla hpq
  have hst : q.steps ≤ 24 := by rw [hqs, hrl'.out]; omega
  have hpq9 := hpq
  obtain ⟨uh, ur, hue, hqh, hqr⟩ := hpq
  injection hue with hue
  injection hue with hue
  simp only [List.cons.injEq, and_true] at hue
  obtain ⟨rfl, hu1, hu2, hu3, hu4, rfl⟩ := hue
  injection hu1 with _ hu1
  injection hu2 with _ hu2
  injection hu3 with _ hu3
  injection hu4 with _ hu4
  subst hu1 hu2 hu3 hu4
  obtain ⟨hd, hhd⟩ : ∃ n, lastH p other = n := ⟨_, rfl⟩
  have hd1 : hd ≤ 1 := by rw [← hhd]; unfold lastH; split <;> omega
  have hnh : nh = hd + 1 := by
   obtain ⟨A9, c9, e9, -⟩ := hqh.slice
   injection e9 with _ e9
   rw [e9, hla, hhd]
  rw [hhd] at how
  have kfi := pf_rd_Find _ q W4 hpq9 hqF hst
  have kco := fun V h => pf_rd_Conflict _ q V (hpq9.le (W := V) h) hqF hst
  rw [hco] at kco
  obtain ⟨E, hE⟩ : ∃ E, findE q = E := ⟨_, rfl⟩
  rw [hE] at kfi hfi
  clear c0' c1' c2' c3' c4' c5'
  obtain ⟨d0, d1, d2, d3, d4, d5⟩ := pc6 k4
  have ⟨hb3', hbw3', k3', hb4', hbw4', k4', k34', hbq'⟩ := hyd8 hb3 hbw3 k3 hb4 hbw4 k4 k34 hbq
  have ⟨hpic', hT', hq', hqF', hqO', hfi', hco', how'⟩ := hyd8 hpic hT hq hqF hqO hfi hco how
  have ⟨hqs', hla', hpq9', hqh', hqr', hhd', hnh', kfi'⟩ := hyd8 hqs hla hpq9 hqh hqr hhd hnh kfi
  have ⟨kco', hE'⟩ := hyd2 kco hE
  clear hE kco kfi hnh hhd hqr hqh hpq9 hla hqs how hco hfi hqO hqF hq hT hpic hbq k34 k4 hbw4 hb4 k3 hbw3 hb3
  go_wp2_with (fail)
  clear hW4
  go_at_call 9
  refine kfi'.out.mono ?_
  rintro e W5 ⟨vl, rfl, hb5, hl⟩
  have hbw5 := bel_set hbw4'.out hb5
  have k45 := blk hb5 k4'.out
  have k35 := blk hb5 k34'.out
  clear d0 d1 d2 d3 d4 d5
  rcases hfi'.out with rfl | ⟨rfl, hLf, h400⟩
  ·have ⟨hb5', hbw5', k45', k35', hl'⟩ := hyd5 hb5 hbw5 k45 k35 hl
   clear hl k35 k45 hbw5 hb5
   go_wp2
   go_ret
   exact ⟨rfl, hbw5'.out⟩
  rw [hLf] at hl
  obtain ⟨L, hL⟩ : ∃ L, foundL q = L := ⟨_, rfl⟩
  rw [hL] at hl h400
  obtain ⟨A, c, rfl, -⟩ := hl.slice
  obtain ⟨n, hn⟩ : ∃ n, L.length = n := ⟨_, rfl⟩
  rw [hn] at h400 ⊢
  obtain ⟨d0, d1, d2, d3, d4, d5⟩ := pc6 k45
  have kco5 := kco'.out W5 hb5
  have ⟨hb5', hbw5', k45', k35', hl', hLf', hL', hn'⟩ := hyd8 hb5 hbw5 k45 k35 hl hLf hL hn
  have kco5' := hyd1 kco5
  clear kco5 hn hL hLf hl k35 k45 hbw5 hb5
  go_wp2_with (fail)
  go_at_call 13
  refine kco5'.out.mono ?_
  rintro e W6 ⟨vc, rfl, hb6, -⟩
  have hbw6 := bel_set hbw5'.out hb6
  have k46 := blk hb6 k45'.out
  have k36 := blk hb6 k35'.out
  clear d0 d1 d2 d3 d4 d5
  have hl6 := hl'.out.le hb6
  obtain ⟨Wz, hWz, hbz, kz⟩ := newb W6 (.cells #[.int .i64 0, .int .i64 0, .int .i64 0, .int .i64 0, .int .i64 0] 38)
  obtain ⟨z0, z1, z2, z3, z4⟩ := pc5 kz
  have fz0 := pfrz kz 0
  have fz1 := pfrz kz 1
  have fz2 := pfrz kz 2
  have fz3 := pfrz kz 3
  have fz4 := pfrz kz 4
  obtain ⟨W7, hW7, hb7, k7⟩ : ∃ V, (((((Wz.setCell ⟨W6.heap.size, 0, none⟩ (.int .i64 (-1))).setCell ⟨W6.heap.size, 1, none⟩ (.int .i64 0)).setCell ⟨W6.heap.size, 2, none⟩ (.int .i64 0)).setCell ⟨W6.heap.size, 3, none⟩ (.int .i64 0)).setCell ⟨W6.heap.size, 4, none⟩ (.int .i64 0)) = V ∧ Below W6.heap.size W6 V ∧ V.heap[W6.heap.size]? = some (.cells #[.int .i64 (-1), .int .i64 0, .int .i64 0, .int .i64 0, .int .i64 0] 38) :=
   ⟨_, rfl, pset5b hbz (Nat.le_refl _) _ _ _ _ _, pset5 kz _ _ _ _ _⟩
  have ⟨hb6', hbw6', k46', k36', hl6', hbz', kz', hb7'⟩ := hyd8 hb6 hbw6 k46 k36 hl6 hbz kz hb7
  have k7' := hyd1 k7
  clear k7 hb7 kz hbz hl6 k36 k46 hbw6 hb6
  go_wp2_with (fail)
  clear hWz z0 z1 z2 z3 z4 fz0 fz1 fz2 fz3 fz4
  have hLm : ∀ f ∈ L, ∃ (h : Nat) (t a : Int) (x : Spn), h < q.hs.length ∧ (q.tl ≤ t ∧ t ≤ q.th) ∧ (q.al ≤ a ∧ a ≤ q.ah) ∧ x ∈ fitL q.rds (q.lift h) t a ∧ f = ⟨h, t, a, x.1, x.2⟩ := fun f hf => mem_found.1 (by rw [hL'.out]; exact hf)
  have hff : ∀ f ∈ L, f.Fit := fun f hf => by
   obtain ⟨h, t, a, x, m1, m2, m3, m4, rfl⟩ := hLm f hf
   have e1 := found_le m4
   have e2 := (found_in m4 (Int.le_refl _) e1).1
   have e3 := (found_in m4 e1 (Int.le_refl _)).1
   have e4 := hqO'.out.heads
   have e5 := hqO'.out.tl
   have e6 := hqO'.out.th
   have e7 := hqO'.out.al
   have e8 := hqO'.out.ah
   unfold Fnd.Fit fit64
   dsimp only
   omega
  clear hLm
  have hff' := hyd1 hff
  clear hff
  refine wp_loop (TrRel1 W6 w.heap.size W3.heap.size W6.heap.size n c A L p (hd : Int)) (fun a _ => n - (intOf (a.tmps.getD 96 undef)).toNat) ?start ?round
  case start => exact ⟨_, 0, ⟨-1, 0, 0, 0, 0⟩, rfl, frame_mkN _ _ (by kernel_rfl), Nat.zero_le _, hb7', k7', Lib.hid (.inl ⟨rfl, fun x hx => by simp at hx⟩)⟩
  case round =>
   rintro a W8 ⟨t, k, f, rfl, ⟨u, rfl⟩, hk, hb8, hf8, hI⟩
   by_cases hlt : k < n
   ·have hkl : k < L.length := by rw [hn'.out]; exact hlt
    obtain ⟨g, o1, z1, heq, hg, q0, q1, q2, q3, q4⟩ := FndL.cells (hl6'.out.le hb8.out) hkl
    rw [hn'.out] at heq
    injection heq with x1 x2 x3
    subst x1 x3
    clear x2
    obtain ⟨⟨y0, y1, y2, y3, y4⟩, hy⟩ : ∃ y, L[k] = y := ⟨_, rfl⟩
    rw [hy] at q0 q1 q2 q3 q4
    dsimp only at q0 q1 q2 q3 q4
    obtain ⟨ow, how⟩ : ∃ b, ownB p (hd : Int) ⟨y0, y1, y2, y3, y4⟩ = b := ⟨_, rfl⟩
    have how2 : ow = (decide (y0 = (hd : Int)) && (decide (y1 = p.throw) && (decide (y2 = p.adv) && (decide (y3 ≤ p.start) && decide (p.start ≤ y4))))) := by rw [← how]; rfl
    obtain ⟨c0', c1', c2', c3', c4', c5'⟩ := pc6 (blk hb8.out k36'.out)
    obtain ⟨d0, d1, d2, d3, d4, d5⟩ := pc6 (blk hb8.out k46'.out)
    have hqq0 := Lib.hid q0
    have hqq1 := Lib.hid q1
    have hqq2 := Lib.hid q2
    have hqq3 := Lib.hid q3
    have hqq4 := Lib.hid q4
    have k2i : (k : Int) ≤ 400 := by omega
    clear q0 q1 q2 q3 q4
    have ⟨hy', how', how2', c0'', c1'', c2'', c3'', c4''⟩ := hyd8 hy how how2 c0' c1' c2' c3' c4'
    have ⟨c5'', d0', d1', d2', d3', d4', d5'⟩ := hyd7 c5' d0 d1 d2 d3 d4 d5
    clear d5 d4 d3 d2 d1 d0 c5' c4' c3' c2' c1' c0' how2 how hy
    go_upto_region 17 with (fail)
    refine true_t17 w.heap.size W3.heap.size W6.heap.size g o1 n c nh oc hd k QH p.start p.throw p.adv y0 y1 y2 y3 y4 ow W8 hlt hnh'.out (by omega) hqq0.out hqq1.out hqq2.out hqq3.out hqq4.out c2''.out c3''.out c4''.out d0'.out how2'.out _ ?_ _ (frame_mkN _ _ (by kernel_rfl))
    rintro nq _ ⟨u, rfl⟩
    cases ow with
    | false =>
     go_wp2
     exact ⟨⟨_, k + 1, f, rfl, frame_mkN _ _ (by kernel_rfl), by omega, Lib.hid (below_drewN' hb8.out nq), hf8, Lib.hid (hI.out.no hkl (by rw [hy'.out]; exact how'.out))⟩, by simp [intOf]; omega⟩
    | true =>
     have hb9 := below_drewN' hb8.out nq
     have hf9 : (W8.drewN nq).heap[W6.heap.size]? = some (.cells #[.int .i64 f.head, .int .i64 f.throw, .int .i64 f.adv, .int .i64 f.lo, .int .i64 f.hi] 38) := hf8.out
     have r0 : (W8.drewN nq).cell? ⟨g, o1 + k * 5, none⟩ = some (.int .i64 y0) := hqq0.out
     have r1 : (W8.drewN nq).cell? ⟨g, o1 + k * 5 + 1, none⟩ = some (.int .i64 y1) := hqq1.out
     have r2 : (W8.drewN nq).cell? ⟨g, o1 + k * 5 + 2, none⟩ = some (.int .i64 y2) := hqq2.out
     have r3 : (W8.drewN nq).cell? ⟨g, o1 + k * 5 + 3, none⟩ = some (.int .i64 y3) := hqq3.out
     have r4 : (W8.drewN nq).cell? ⟨g, o1 + k * 5 + 4, none⟩ = some (.int .i64 y4) := hqq4.out
     generalize W8.drewN nq = W9 at hb9 hf9 r0 r1 r2 r3 r4 ⊢
     obtain ⟨W10, hW10, hb10, k10⟩ : ∃ V, (((((W9.setCell ⟨W6.heap.size, 0, none⟩ (.int .i64 y0)).setCell ⟨W6.heap.size, 1, none⟩ (.int .i64 y1)).setCell ⟨W6.heap.size, 2, none⟩ (.int .i64 y2)).setCell ⟨W6.heap.size, 3, none⟩ (.int .i64 y3)).setCell ⟨W6.heap.size, 4, none⟩ (.int .i64 y4)) = V ∧ Below W6.heap.size W6 V ∧ V.heap[W6.heap.size]? = some (.cells #[.int .i64 y0, .int .i64 y1, .int .i64 y2, .int .i64 y3, .int .i64 y4] 38) :=
      ⟨_, rfl, pset5b hb9 (Nat.le_refl _) _ _ _ _ _, pset5 hf9 _ _ _ _ _⟩
     obtain ⟨e0, e1, e2, e3, e4⟩ := pc5 hf9
     have fg0 := pfrz hf9 0
     have fg1 := pfrz hf9 1
     have fg2 := pfrz hf9 2
     have fg3 := pfrz hf9 3
     have fg4 := pfrz hf9 4
     have i1 : (k : Int) < (n : Int) := by omega
     have i2 : (0 : Int) ≤ (k : Int) := by omega
     have ⟨hb9', hf9', hb10', k10'⟩ := hyd4 hb9 hf9 hb10 k10
     clear k10 hb10 hf9 hb9
     go_wp2
     exact ⟨⟨_, k + 1, ⟨y0, y1, y2, y3, y4⟩, rfl, frame_mkN _ _ (by kernel_rfl), by omega, hb10', k10', Lib.hid (.inr ⟨by rw [← hy'.out]; exact List.getElem_mem hkl, how'.out⟩)⟩, by simp [intOf]; omega⟩
   ·obtain rfl : k = n := by omega
    have hI2 := hI.out
    rw [← hn'.out] at hI2
    obtain ⟨hfm, hfo⟩ := hI2.end (by rw [← hL'.out]; exact how'.out)
    have hb36 := bel_set hb4'.out (bel_set hb5'.out (bel_set hb6'.out hb8.out))
    go_upto_region 20 with (fail)
    exact true_from20 p other (cu : Int) (no : Int) sm f w W8 w.heap.size W3.heap.size W6.heap.size nh oc qr qc QH QR (.slice A0 rl c0) (.slice A1 bl c1) A5 c5 sl q hq'.out hT'.out hpf'.out hof'.out (by rw [hhd'.out]; exact hfo) (hff'.out f hfm) hsl'.out (hv9'.out.below (bel_set hbw6'.out hb8.out)) (hpq9'.out.le (bel_set hb5'.out (bel_set hb6'.out hb8.out))) ⟨_, _, _, rfl⟩ ⟨_, _, _, rfl⟩ (blk hb8.out k36'.out) (blk hb8.out k46'.out) hf8.out (bel_set hbw6'.out hb8.out) _ (frame_mkN _ _ (by kernel_rfl)) _ (by assumption)
theorem law_ReadTrue (a0 : Prog) (x0 : Value) (a1 : List Int) (x1 : Value) (a2 a3 : Int) (a4 : List Int) (x4 : Value) (w : World) (w0 : IsProg w x0 a0 ∧ a0.fits) (w1 : Ints w x1 a1 ∧ ∀ n ∈ a1, (Lit.int .i64 n).wf = true) (w2 : (Lit.int .u8 a2).wf = true) (w3 : (Lit.int .u8 a3).wf = true) (w4 : Arr (Value.int .u8) w x4 a4 ∧ ∀ n ∈ a4, (Lit.int .u8 n).wf = true) :
  Calls Try.prog 5 #[x0, x1, .int .u8 a2, .int .u8 a3, x4] w fun e w' => e = .returned (.bool true) ∧ Below w.heap.size w w' := by
 have h1' : IntKind.u8.min ≤ a2 ∧ a2 ≤ IntKind.u8.max := by simpa [Lit.wf] using w2
 have h2' : IntKind.u8.min ≤ a3 ∧ a3 ≤ IntKind.u8.max := by simpa [Lit.wf] using w3
 have h1 : 0 ≤ a2 ∧ a2 ≤ 255 := h1'
 have h2 : 0 ≤ a3 ∧ a3 ≤ 255 := h2'
 obtain ⟨n1, rfl⟩ : ∃ n : Nat, a2 = n := ⟨a2.toNat, by omega⟩
 obtain ⟨n2, rfl⟩ : ∃ n : Nat, a3 = n := ⟨a3.toNat, by omega⟩
 obtain ⟨b1, b2⟩ := bytes_of w4.1 w4.2
 exact l9_true a0 x0 x1 x4 a1 (a4.map Int.toNat) n1 n2 w w0.1 w0.2 w1.1 (fun x hx => fit_of_wf (w1.2 x hx)) b1 b2 (by omega) (by omega)
end Go.Proofs.Ytjdgkmcmgagkgaa
