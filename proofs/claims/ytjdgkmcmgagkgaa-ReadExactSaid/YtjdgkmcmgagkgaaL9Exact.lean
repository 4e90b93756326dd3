/- What is found, one by one: plain laws of ReadExact. Settings are found exactly if they fit, ranges are in order and do not touch, their ends fit: the walk of ReadExact. -/
import Derived.Test.YtjdgkmcmgagkgaaFndLaw
import Derived.Test.YtjdgkmcmgagkgaaExactW
import Derived.Test.YtjdgkmcmgagkgaaRdFitX
import Derived.Test.YtjdgkmcmgagkgaaRdAlv
import Derived.Test.YtjdgkmcmgagkgaaRdStartR
namespace Go.Proofs.Ytjdgkmcmgagkgaa
set_option maxRecDepth 100000
set_option maxHeartbeats 4000000
set_option linter.unusedVariables false
theorem upTo_pw (a b : Int) : (upTo a b).Pairwise (· < ·) := by
 unfold upTo
 rw [List.pairwise_map]
 exact (List.pairwise_lt_range).imp fun h => by omega
theorem found_order (p : Pic) : (foundL p).Pairwise befF := by
 unfold foundL
 rw [List.pairwise_flatMap]
 refine ⟨fun h _ => ?_, (List.pairwise_lt_range).imp fun {h h'} hlt x hx y hy => ?_⟩
 ·rw [List.pairwise_flatMap]
  refine ⟨fun t _ => ?_, (upTo_pw _ _).imp fun {t t'} hlt x hx y hy => ?_⟩
  ·rw [List.pairwise_flatMap]
   refine ⟨fun a _ => ?_, (upTo_pw _ _).imp fun {a a'} hlt x hx y hy => ?_⟩
   ·unfold foundA
    rw [List.pairwise_map]
    exact (fitL_nm p.rds (p.lift h) t a).2.imp fun {s s'} hs => .inr ⟨rfl, .inr ⟨rfl, .inr ⟨rfl, hs⟩⟩⟩
   ·unfold foundA at hx hy
    obtain ⟨s, -, rfl⟩ := List.mem_map.1 hx
    obtain ⟨s', -, rfl⟩ := List.mem_map.1 hy
    exact .inr ⟨rfl, .inr ⟨rfl, .inl hlt⟩⟩
  ·simp only [foundA, List.mem_flatMap, List.mem_map] at hx hy
   obtain ⟨a, -, s, -, rfl⟩ := hx
   obtain ⟨a', -, s', -, rfl⟩ := hy
   exact .inr ⟨rfl, .inl hlt⟩
 ·simp only [foundA, List.mem_flatMap, List.mem_map] at hx hy
  obtain ⟨t, -, a, -, s, -, rfl⟩ := hx
  obtain ⟨t', -, a', -, s', -, rfl⟩ := hy
  exact .inl (by show (h : Int) < (h' : Int); omega)
end Go.Proofs.Ytjdgkmcmgagkgaa
namespace Go.Proofs.Ytjdgkmcmgagkgaa
set_option maxRecDepth 100000
set_option maxHeartbeats 4000000
open Go.RowKit
set_option linter.unusedVariables false
set_option linter.unusedSimpArgs false
theorem fd_all {p : Pic} {h : Nat} {t a s : Int} (hh : h < p.hs.length) (ht : p.tl ≤ t ∧ t ≤ p.th) (ha : p.al ≤ a ∧ a ≤ p.ah) (hs : 0 ≤ s ∧ s ≤ 10000) : fdB (foundL p) h t a s (foundL p).length = true ↔ AllFit p.rds (p.lift h) t a s := by
 rw [← found_iff hh ht ha hs]
 unfold fdB fdOne
 rw [List.take_length, List.any_eq_true]
 constructor
 ·rintro ⟨f, hf, hb⟩
  simp only [Bool.and_eq_true, decide_eq_true_eq] at hb
  obtain ⟨e1, e2, e3, e4, e5⟩ := hb
  exact ⟨f.lo, f.hi, by rw [← e1, ← e2, ← e3]; exact hf, e4, e5⟩
 ·rintro ⟨lo, hi, hf, h1, h2⟩
  exact ⟨_, hf, by simp [h1, h2]⟩
def ExRel (V : World) (B1 n c h : Nat) (A : Option Addr) (E th ad s : Int) (L : List Fnd) (a : Act) (W : World) : Prop :=
 ∃ (t : Array Value) (k : Nat) (fd : Bool), a = { tmps := t, defers := [] } ∧ (∃ u : Nat → Value, t = #[(u 0), (u 1), (u 2), (u 3), (u 4), .pointer (some ⟨B1, 0, none⟩), (u 6), (u 7), (u 8), (u 9), .bool false, .bool true, .slice A n c, .int .i64 E, .int .i64 (h : Int), .int .i64 th, .int .i64 ad, .int .i64 s, .bool fd, (u 19), (u 20), (u 21), (u 22), (u 23), (u 24), (u 25), (u 26), (u 27), (u 28), (u 29), (u 30), (u 31), (u 32), (u 33), (u 34), (u 35), (u 36), (u 37), (u 38), (u 39), (u 40), (u 41), (u 42), (u 43), (u 44), (u 45), (u 46), (u 47), (u 48), (u 49), (u 50), (u 51), (u 52), (u 53), (u 54), (u 55), (u 56), (u 57), (u 58), (u 59), (u 60), (u 61), (u 62), (u 63), (u 64), (u 65), (u 66), (u 67), (u 68), (u 69), (u 70), (u 71), (u 72), (u 73), (u 74), (u 75), (u 76), (u 77), (u 78), (u 79), (u 80), (u 81), (u 82), (u 83), (u 84), (u 85), (u 86), (u 87), (u 88), (u 89), (u 90), (u 91), (u 92), .int .i64 (n : Int), .int .i64 (k : Int), (u 95), (u 96), (u 97), (u 98), (u 99), (u 100), (u 101), (u 102), (u 103), (u 104), (u 105), (u 106), (u 107), (u 108), (u 109), (u 110), (u 111), (u 112), (u 113), (u 114), (u 115), (u 116), (u 117), (u 118), (u 119), (u 120), (u 121), (u 122), (u 123), (u 124), (u 125), (u 126), (u 127), (u 128), (u 129), (u 130), (u 131), (u 132), (u 133), (u 134), (u 135), (u 136), (u 137), (u 138), (u 139), (u 140), (u 141), (u 142), (u 143), (u 144), (u 145), (u 146), (u 147), (u 148), (u 149), (u 150), (u 151), (u 152), (u 153), (u 154), (u 155), (u 156), (u 157), (u 158), (u 159), (u 160), (u 161), (u 162), (u 163), (u 164), (u 165), (u 166), (u 167), (u 168), (u 169), (u 170), (u 171), (u 172), (u 173), (u 174), (u 175), (u 176), (u 177), (u 178), (u 179), (u 180), (u 181), (u 182), (u 183), (u 184), (u 185), (u 186), (u 187), (u 188), (u 189), (u 190), (u 191), (u 192), (u 193), (u 194), (u 195), (u 196), (u 197), (u 198), (u 199), (u 200), (u 201), (u 202), (u 203), (u 204), (u 205), (u 206), (u 207), (u 208), (u 209), (u 210), (u 211), (u 212), (u 213), (u 214), (u 215), (u 216), (u 217), (u 218), (u 219), (u 220), (u 221), (u 222), (u 223), (u 224), (u 225), (u 226), (u 227), (u 228), (u 229), (u 230), (u 231), (u 232), (u 233), (u 234), (u 235), (u 236), (u 237), (u 238), (u 239), (u 240), (u 241), (u 242), (u 243), (u 244), (u 245), (u 246), (u 247), (u 248), (u 249), (u 250), (u 251), (u 252), (u 253), (u 254), (u 255), (u 256), (u 257), (u 258), (u 259), (u 260), (u 261), (u 262), (u 263), (u 264), (u 265), (u 266), (u 267), (u 268), (u 269), (u 270), (u 271), (u 272), (u 273), (u 274)]) ∧ k ≤ n ∧ fd = fdB L h th ad s k ∧ Below V.heap.size V W
theorem l9_exact (a0 : Pic) (x0 : Value) (n1 n2 n3 n4 : Nat) (w : World) (w0 : IsPic w x0 a0 ∧ a0.Fit) (hn1 : n1 ≤ 255) (hn2 : n2 ≤ 255) (hn3 : n3 ≤ 255) (hn4 : n4 ≤ 65535) :
  Calls Try.prog 3 #[x0, .int .u8 (n1 : Int), .int .u8 (n2 : Int), .int .u8 (n3 : Int), .int .u16 (n4 : Int)] w fun e w' => e = .returned (.bool true) ∧ Below w.heap.size w w' := by
 obtain ⟨hp, hf⟩ := w0
 have hp9 := hp
 obtain ⟨vh, vr, rfl, hh, hr⟩ := hp
 obtain ⟨HA, hc, rfl, -⟩ := hh.slice
 obtain ⟨RA, rc, rfl, hrl⟩ := hr.slice
 unfold maxLen at hrl
 have kal := fun W => pf_l9_alive W
 have kgr := fun W h => pf_r9_Great _ a0 W (hp9.le (W := W) h) hf
 have kck := fun W h => pf_rd_Check _ a0 W (hp9.le (W := W) h) hf
 obtain ⟨W1, hW1, hb1, k1⟩ := newb w (.cells #[.slice HA a0.hs.length hc, .int .i64 a0.tl, .int .i64 a0.th, .int .i64 a0.al, .int .i64 a0.ah, .slice RA a0.rds.length rc] 25)
 have ⟨hp9', hf', hh', hr', hb1', k1', kal', kgr'⟩ := hyd8 hp9 hf hh hr hb1 k1 kal kgr
 have kck' := hyd1 kck
 clear kck kgr kal k1 hb1 hr hh hf hp9
 go_enter Try.func3, Try.ntmps3
 go_wp2_with (fail)
 clear hW1
 go_at_call 6
 refine (kal'.out W1).mono ?_
 rintro e W2 ⟨rfl, hb2⟩
 have hbw2 := bel_set hb1'.out hb2
 have k2 := blk hb2 k1'.out
 obtain ⟨c0, c1, c2, c3, c4, c5⟩ := pc6 k2
 have ⟨hb2', hbw2', k2'⟩ := hyd3 hb2 hbw2 k2
 clear k2 hbw2 hb2
 go_wp2_with (fail)
 go_at_call 7
 refine (kgr'.out W2 hbw2'.out).mono ?_
 rintro e W3 ⟨b, rfl, hb3, hgr⟩
 have hbw3 := bel_set hbw2'.out hb3
 have k3 := blk hb3 k2'.out
 clear c0 c1 c2 c3 c4 c5
 obtain ⟨c0, c1, c2, c3, c4, c5⟩ := pc6 k3
 have ⟨hb3', hbw3', k3', hgr'⟩ := hyd4 hb3 hbw3 k3 hgr
 clear hgr k3 hbw3 hb3
 cases b with
 | true =>
  go_wp2
  go_ret
  exact ⟨rfl, hbw3'.out⟩
 | false =>
  obtain ⟨g6, g70, gl⟩ := hgr'.out rfl
  have hst : a0.steps ≤ 24 := by
   unfold Pic.steps
   rw [List.getD_eq_getElem?_getD]
   cases e : a0.hs[0]? with
   | none => exact Nat.zero_le _
   | some h => exact (gl h (List.mem_of_getElem? e)).1
  clear gl hgr'
  by_cases h15 : 12 < a0.rds.length
  ·have h15i : (12 : Int) < (a0.rds.length : Int) := by omega
   go_wp2
   go_ret
   exact ⟨rfl, hbw3'.out⟩
  have h15n : a0.rds.length ≤ 12 := by omega
  have h15i : ¬ (12 : Int) < (a0.rds.length : Int) := by omega
  go_wp2_with (fail)
  go_at_call 8
  refine (kck'.out W3 hbw3'.out).mono ?_
  rintro e W4 ⟨rfl, hb4⟩
  have hbw4 := bel_set hbw3'.out hb4
  have k4 := blk hb4 k3'.out
  clear c0 c1 c2 c3 c4 c5
  obtain ⟨c0, c1, c2, c3, c4, c5⟩ := pc6 k4
  have ⟨hb4', hbw4', k4'⟩ := hyd3 hb4 hbw4 k4
  clear k4 hbw4 hb4
  obtain ⟨PB, hPB⟩ : ∃ b, picB a0 = b := ⟨_, rfl⟩
  cases PB with
  | false =>
   rw [show picE a0 = 90 by unfold picE; rw [hPB]; rfl]
   have hPB' := hyd1 hPB
   clear hPB
   go_wp2
   go_ret
   exact ⟨rfl, hbw4'.out⟩
  | true =>
   rw [show picE a0 = 0 by unfold picE; rw [hPB]; rfl]
   have hok := picB_iff.1 hPB
   have hhl := hok.heads
   have h0l : 0 < a0.hs.length := by omega
   obtain ⟨b, off, c, vr, vb, e, hbl, g0, g1, i0, i1⟩ := (hh'.out.le hbw4'.out).at h0l
   injection e with e1 e2 e3
   subst e1 e3
   clear e2
   rw [Nat.zero_mul, Nat.add_zero] at g0
   obtain ⟨A0, m0, rfl, -⟩ := id i0
   obtain ⟨sl, hsl⟩ : ∃ n, a0.hs[0].ros.length = n := ⟨_, rfl⟩
   rw [hsl] at g0
   clear g1 i0 i1 hsl
   have q0 : (0 : Int) < (a0.hs.length : Int) := by omega
   by_cases h8 : 8 < sl
   ·have h8i : (8 : Int) < (sl : Int) := by omega
    have ⟨hPB', hok'⟩ := hyd2 hPB hok
    clear hok hPB
    go_wp2
    go_ret
    exact ⟨rfl, hbw4'.out⟩
   have h8n : sl ≤ 8 := by omega
   have h8i : ¬ (8 : Int) < (sl : Int) := by omega
   have kfi := pf_rd_Find _ a0 W4 (hp9'.out.le hbw4'.out) hf'.out hst
   have hfc := find_cases hPB
   obtain ⟨E, hE⟩ : ∃ E, findE a0 = E := ⟨_, rfl⟩
   rw [hE] at kfi hfc
   have ⟨hPB', hok', kfi', hfc', hE'⟩ := hyd5 hPB hok kfi hfc hE
   clear hE hfc kfi hok hPB
   go_wp2_with (fail)
   go_at_call 9
   refine kfi'.out.mono ?_
   rintro e W5 ⟨vf, rfl, hb5, hfv⟩
   have hbw5 := bel_set hbw4'.out hb5
   have k5 := blk hb5 k4'.out
   clear c0 c1 c2 c3 c4 c5 g0
   obtain ⟨c0, c1, c2, c3, c4, c5⟩ := pc6 k5
   rcases hfc'.out with rfl | ⟨hE2, hL, h400⟩
   ·have ⟨hfv', hb5', hbw5', k5'⟩ := hyd4 hfv hb5 hbw5 k5
    clear k5 hbw5 hb5 hfv
    go_wp2
    go_ret
    exact ⟨rfl, hbw5'.out⟩
   ·have hE4 : (E == 4) = false := by rcases hE2 with ⟨rfl, -⟩ | ⟨rfl, -⟩ <;> rfl
    rw [hL] at hfv
    obtain ⟨L, hLL⟩ : ∃ L, foundL a0 = L := ⟨_, rfl⟩
    rw [hLL] at hfv hE2 h400
    have hok := hok'.out
    obtain ⟨nh, hnh⟩ : ∃ n, a0.hs.length = n := ⟨_, rfl⟩
    rw [hnh] at hhl
    obtain ⟨T, hT⟩ : ∃ T : Nat, a0.th - a0.tl + 1 = (T : Int) := ⟨(a0.th - a0.tl + 1).toNat, by have := hok.tle; omega⟩
    obtain ⟨D, hD⟩ : ∃ D : Nat, a0.ah - a0.al + 1 = (D : Int) := ⟨(a0.ah - a0.al + 1).toNat, by have := hok.ale; omega⟩
    have bT := hok.tle
    have bD := hok.ale
    have bt1 := hok.tl
    have bt2 := hok.th
    have ba1 := hok.al
    have ba2 := hok.ah
    obtain ⟨h, hh1⟩ : ∃ h, n1 % nh = h := ⟨_, rfl⟩
    obtain ⟨m2, hm2⟩ : ∃ h, n2 % T = h := ⟨_, rfl⟩
    obtain ⟨m3, hm3⟩ : ∃ h, n3 % D = h := ⟨_, rfl⟩
    obtain ⟨m4, hm4⟩ : ∃ h, n4 % 10001 = h := ⟨_, rfl⟩
    have l1 : h < nh := by rw [← hh1]; exact Nat.mod_lt _ (by omega)
    have l2 : m2 < T := by rw [← hm2]; exact Nat.mod_lt _ (by omega)
    have l3 : m3 < D := by rw [← hm3]; exact Nat.mod_lt _ (by omega)
    have l4 : m4 ≤ 10000 := by omega
    obtain ⟨th, hth⟩ : ∃ t, a0.tl + (m2 : Int) = t := ⟨_, rfl⟩
    obtain ⟨ad, had⟩ : ∃ t, a0.al + (m3 : Int) = t := ⟨_, rfl⟩
    have bth : a0.tl ≤ th ∧ th ≤ a0.th := by omega
    have bad : a0.al ≤ ad ∧ ad ≤ a0.ah := by omega
    have x1 : (n1 : Int).tmod (nh : Int) = (h : Int) := by rw [← hh1]; rfl
    have y1 : (n1 : Int) % (nh : Int) = (h : Int) := by rw [← hh1]; rfl
    have x2 : (n2 : Int).tmod (T : Int) = (m2 : Int) := by rw [← hm2]; rfl
    have y2 : (n2 : Int) % (T : Int) = (m2 : Int) := by rw [← hm2]; rfl
    have x3 : (n3 : Int).tmod (D : Int) = (m3 : Int) := by rw [← hm3]; rfl
    have y3 : (n3 : Int) % (D : Int) = (m3 : Int) := by rw [← hm3]; rfl
    have x4 : (n4 : Int).tmod 10001 = (m4 : Int) := by rw [← hm4]; rfl
    have y4 : (n4 : Int) % 10001 = (m4 : Int) := by rw [← hm4]; rfl
    have z1 : IntKind.i64.wrap (a0.th - a0.tl) = a0.th - a0.tl := IntWalk.i64_in _ (by omega)
    have z2 : IntKind.i64.wrap (a0.th - a0.tl + 1) = (T : Int) := by rw [hT]; exact IntWalk.i64_in _ (by omega)
    have z3 : IntKind.i64.wrap (a0.tl + (m2 : Int)) = th := by rw [hth]; exact IntWalk.i64_in _ (by omega)
    have z4 : IntKind.i64.wrap (a0.ah - a0.al) = a0.ah - a0.al := IntWalk.i64_in _ (by omega)
    have z5 : IntKind.i64.wrap (a0.ah - a0.al + 1) = (D : Int) := by rw [hD]; exact IntWalk.i64_in _ (by omega)
    have z6 : IntKind.i64.wrap (a0.al + (m3 : Int)) = ad := by rw [had]; exact IntWalk.i64_in _ (by omega)
    have s1 : IntKind.i64.wrap (n1 : Int) = (n1 : Int) := IntWalk.i64_in _ (by omega)
    have s2 : IntKind.i64.wrap (n2 : Int) = (n2 : Int) := IntWalk.i64_in _ (by omega)
    have s3 : IntKind.i64.wrap (n3 : Int) = (n3 : Int) := IntWalk.i64_in _ (by omega)
    have s4 : IntKind.i64.wrap (n4 : Int) = (n4 : Int) := IntWalk.i64_in _ (by omega)
    have r1 : ¬ (nh : Int) = 0 := by omega
    have r2 : ¬ nh = 0 := by omega
    have r3 : ¬ (T : Int) = 0 := by omega
    have r4 : ¬ T = 0 := by omega
    have r5 : ¬ (D : Int) = 0 := by omega
    have r6 : ¬ D = 0 := by omega
    have r7 : (0 : Int) < (nh : Int) := by omega
    have r8 : (0 : Int) < (T : Int) := by omega
    have r9 : (0 : Int) < (D : Int) := by omega
    obtain ⟨A, c, hv9, hn9⟩ := hfv.slice
    obtain ⟨n, hn⟩ : ∃ n, L.length = n := ⟨_, rfl⟩
    rw [hn] at hv9 hn9 hE2 h400
    subst hv9
    rw [hnh] at c0
    have ⟨hfv', hb5', hbw5', k5', hE2', hL', hok', hhl'⟩ := hyd8 hfv hb5 hbw5 k5 hE2 hL hok hhl
    have ⟨hT', hD', hth', had', hh1', hm2', hm3', hm4'⟩ := hyd8 hT hD hth had hh1 hm2 hm3 hm4
    have ⟨hLL', hn', hnh'⟩ := hyd3 hLL hn hnh
    clear hnh hn hLL hm4 hm3 hm2 hh1 had hth hD hT hhl hok hL hE2 k5 hbw5 hb5 hfv
    go_wp2_with (fail)
    go_quiet (fail)
    have hb6 := below_drewN' (Below.refl W5.heap.size W5) nq
    have k6 := blk hb6 k5'.out
    have hbw6 := bel_set hbw5'.out hb6
    have hfv6 := hfv'.out.le hb6
    clear c0 c1 c2 c3 c4 c5 x1 y1 x2 y2 z1 z2 z3 s1 s2 r1 r2 r3 r4 r7 r8
    generalize W5.drewN nq = W6 at hb6 k6 hbw6 hfv6 ⊢
    obtain ⟨c0, c1, c2, c3, c4, c5⟩ := pc6 k6
    have ⟨hb6', k6', hbw6', hfv6'⟩ := hyd4 hb6 k6 hbw6 hfv6
    clear hfv6 hbw6 k6 hb6
    go_wp2_with (fail)
    go_quiet (fail)
    have hb7 := below_drewN' (Below.refl W6.heap.size W6) nq
    have k7 := blk hb7 k6'.out
    have hbw7 := bel_set hbw6'.out hb7
    have hfv7 := hfv6'.out.le hb7
    clear c0 c1 c2 c3 c4 c5 x3 y3 x4 y4 z4 z5 z6 s3 s4 r5 r6 r9
    generalize W6.drewN nq = V at hb7 k7 hbw7 hfv7 ⊢
    have hok := hok'.out
    have hhV := hh'.out.le hbw7
    have hrV := hr'.out.le hbw7
    have kft : ∀ W (hd : Nat) (t a x : Int), Below V.heap.size V W → hd < a0.hs.length → 1 ≤ t ∧ t ≤ 16 → -1000 ≤ a ∧ a ≤ 1000 → 0 ≤ x ∧ x ≤ 10000 → Calls Try.prog 10 #[.agg #[.slice (some ⟨b, off, none⟩) a0.hs.length hc, .int .i64 a0.tl, .int .i64 a0.th, .int .i64 a0.al, .int .i64 a0.ah, .slice RA a0.rds.length rc], .int .i64 (hd : Int), .int .i64 t, .int .i64 a, .int .i64 x] W fun e w' => ∃ b, e = .returned (.bool b) ∧ Below W.heap.size W w' ∧ (b = true ↔ AllFit a0.rds (a0.lift hd) t a x) := fun W hd t a x hb h1 h2 h3 h4 =>
     pf_l9_fit _ hc RA rc a0 hd t a x W (hhV.le hb) (hrV.le hb) hok h1 h2 h3 h4
    have hLm : ∀ f ∈ L, ∃ (hd : Nat) (t a : Int) (s : Spn), hd < a0.hs.length ∧ (a0.tl ≤ t ∧ t ≤ a0.th) ∧ (a0.al ≤ a ∧ a ≤ a0.ah) ∧ s ∈ fitL a0.rds (a0.lift hd) t a ∧ f = ⟨hd, t, a, s.1, s.2⟩ := fun f hf => mem_found.1 (by rw [hLL'.out]; exact hf)
    have hLb : ∀ f ∈ L, 0 ≤ f.hi ∧ f.hi ≤ 10000 := fun f hf => by
     obtain ⟨hd, t, a, s, -, -, -, h4, rfl⟩ := hLm f hf
     exact (found_in h4 (found_le h4) (Int.le_refl _)).1
    have hLo : L.Pairwise befF := by rw [← hLL'.out]; exact found_order a0
    have ⟨hb7', k7', hbw7', hfv7', hok', hhV', hrV', kft'⟩ := hyd8 hb7 k7 hbw7 hfv7 hok hhV hrV kft
    have ⟨hLm', hLb', hLo', bth', bad', bt1', bt2', ba1'⟩ := hyd8 hLm hLb hLo bth bad bt1 bt2 ba1
    have ⟨ba2', bT', bD'⟩ := hyd3 ba2 bT bD
    clear bD bT ba2 ba1 bt2 bt1 bad bth hLo hLb hLm kft hrV hhV hok hfv7 hbw7 k7 hb7
    go_wp2_with (fail)
    refine wp_loop (ExRel V w.heap.size n c h A E th ad (m4 : Int) L) (fun a _ => n - (intOf (a.tmps.getD 94 undef)).toNat) ?start ?round
    case start => exact ⟨_, 0, false, rfl, frame_mkN _ _ (by kernel_rfl), Nat.zero_le _, rfl, Below.refl _ _⟩
    case round =>
     rintro a W8 ⟨t, k, fd, rfl, ⟨u, rfl⟩, hk, hfd, hb8⟩
     by_cases hlt : k < n
     ·have hfv8 := hfv7'.out.le hb8
      have hkl : k < L.length := by rw [hn'.out]; exact hlt
      obtain ⟨g, o1, z1, heq, hgl, q0, q1, q2, q3, q4⟩ := FndL.cells hfv8 hkl
      rw [hn'.out] at heq
      injection heq with e1 e2 e3
      subst e1 e3
      clear e2
      obtain ⟨hd, t, a, ⟨lo, hi⟩, m1, bt, ba, hs, hxe⟩ := hLm'.out L[k] (List.getElem_mem hkl)
      have hle := found_le hs
      have hf1 := found_in hs (Int.le_refl _) hle
      have hf2 := found_in hs hle (Int.le_refl _)
      dsimp only at hle hf1 hf2 hxe
      have hsu := fdB_succ (h := (h : Int)) (t := th) (a := ad) (s := (m4 : Int)) hkl
      rw [← hfd, hxe] at hsu
      rw [hxe] at q0 q1 q2 q3 q4
      dsimp only at q0 q1 q2 q3 q4
      have hxg : L[k]? = some ⟨(hd : Int), t, a, lo, hi⟩ := by rw [List.getElem?_eq_getElem hkl, hxe]
      obtain ⟨Wa, hWa, hba, ka⟩ := newb W8 (.cells #[.int .i64 (hd : Int), .int .i64 t, .int .i64 a, .int .i64 lo, .int .i64 hi] 38)
      have hbVa := bel_set hb8 hba
      have kpa := blk hbVa k7'.out
      have j3 : (k : Int) < (n : Int) := by omega
      have hfva := hfv8.le hba
      have bb1 := bt1'.out
      have bb2 := bt2'.out
      have bb3 := ba1'.out
      have bb4 := ba2'.out
      have hfit : ∀ W' x, Below V.heap.size V W' → (x = lo ∨ x = hi) → Calls Try.prog 10 #[.agg #[.slice (some ⟨b, off, none⟩) a0.hs.length hc, .int .i64 a0.tl, .int .i64 a0.th, .int .i64 a0.al, .int .i64 a0.ah, .slice RA a0.rds.length rc], .int .i64 (hd : Int), .int .i64 t, .int .i64 a, .int .i64 x] W' fun e w' => e = .returned (.bool true) ∧ Below W'.heap.size W' w' := fun W' x hb hx => by
       have hxx : (0 ≤ x ∧ x ≤ 10000) ∧ AllFit a0.rds (a0.lift hd) t a x := by
        rcases hx with rfl | rfl
        ·exact hf1
        ·exact hf2
       refine (kft'.out W' hd t a x hb m1 (by omega) (by omega) hxx.1).mono ?_
       rintro e w' ⟨b, rfl, hb, hb2⟩
       exact ⟨by rw [hb2.2 hxx.2], hb⟩
      have hx3 : 0 ≤ lo ∧ lo ≤ hi ∧ hi ≤ 10000 := ⟨hf1.1.1, hle, hf2.1.2⟩
      clear hf1 hf2 hs bt ba bb1 bb2 bb3 bb4
      have ⟨hfd', hb8', hfv8', hxe', hsu', hxg', hba', ka'⟩ := hyd8 hfd hb8 hfv8 hxe hsu hxg hba ka
      have ⟨hbVa', kpa', hfva', hfit', hx3', m1', hle'⟩ := hyd7 hbVa kpa hfva hfit hx3 m1 hle
      clear hle m1 hx3 hfit hfva kpa hbVa ka hba hxg hsu hxe hfv8 hb8 hfd
      go_upto_region 14 with (fail)
      clear hWa q0 q1 q2 q3 q4
      refine ex_t14 _ RA hc rc hd a0 V g o1 c n k w.heap.size W8.heap.size L _ t a lo hi E (h : Int) th ad (m4 : Int) fd _ Wa hlt (by omega) hn'.out hxg'.out hLo'.out hfva'.out ka'.out hLb'.out kpa'.out rfl m1'.out hx3'.out hbVa'.out hfit'.out rfl _ ?_ _ (frame_mkN _ _ (by kernel_rfl)) _ (by assumption)
      rintro _ W9 ⟨u, rfl⟩ hb9
      have hb79 := bel_set hbVa'.out hb9
      have ⟨hb9', hb79'⟩ := hyd2 hb9 hb79
      clear hb79 hb9
      go_wp2
      exact ⟨⟨_, k + 1, _, rfl, frame_mkN _ _ (by kernel_rfl), by omega, hsu'.out.symm, hb79'.out⟩, by simp [intOf]; omega⟩
     ·obtain rfl : k = n := by omega
      have bth := bth'.out
      have bad := bad'.out
      have bb1 := bt1'.out
      have bb2 := bt2'.out
      have bb3 := ba1'.out
      have bb4 := ba2'.out
      have hhd : h < a0.hs.length := by rw [hnh'.out]; exact l1
      have hall := fd_all (p := a0) (h := h) (t := th) (a := ad) (s := (m4 : Int)) hhd bth bad (by omega)
      rw [hLL'.out, hn'.out, ← hfd] at hall
      have kf9 := kft'.out W8 h th ad (m4 : Int) hb8 hhd (by omega) (by omega) (by omega)
      have k8 := blk hb8 k7'.out
      have hbw8 := bel_set hbw7'.out hb8
      obtain ⟨c0, c1, c2, c3, c4, c5⟩ := pc6 k8
      have hE2 := hE2'.out
      have ⟨hfd', hb8', hall', kf9', k8', hbw8', hhd', hE2'⟩ := hyd8 hfd hb8 hall kf9 k8 hbw8 hhd hE2
      clear hE2 hhd hbw8 k8 kf9 hall hb8 hfd
      go_wp2_with (fail)
      go_at_call 10
      refine kf9'.out.mono ?_
      rintro e W9 ⟨b9, rfl, hb9, hiff⟩
      obtain rfl : fd = b9 := Bool.eq_iff_iff.2 (hall'.out.trans hiff.symm)
      have hbw9 := bel_set hbw8'.out hb9
      clear hiff
      have ⟨hb9', hbw9'⟩ := hyd2 hb9 hbw9
      clear hbw9 hb9
      rcases hE2'.out with ⟨rfl, hpos⟩ | ⟨rfl, hpos⟩
      ·have hpi : (0 : Int) < (k : Int) := by omega
       clear hE2'
       cases fd
       all_goals
        go_wp2
        go_ret
        exact ⟨rfl, hbw9'.out⟩
      ·subst hpos
       cases fd
       all_goals
        go_wp2
        go_ret
        exact ⟨rfl, hbw9'.out⟩
theorem law_ReadExact (a0 : Pic) (x0 : Value) (a1 a2 a3 a4 : Int) (w : World) (w0 : IsPic w x0 a0 ∧ a0.Fit) (w1 : (Lit.int .u8 a1).wf = true) (w2 : (Lit.int .u8 a2).wf = true) (w3 : (Lit.int .u8 a3).wf = true) (w4 : (Lit.int .u16 a4).wf = true) :
  Calls Try.prog 3 #[x0, .int .u8 a1, .int .u8 a2, .int .u8 a3, .int .u16 a4] w fun e w' => e = .returned (.bool true) ∧ Below w.heap.size w w' := by
 have h1' : IntKind.u8.min ≤ a1 ∧ a1 ≤ IntKind.u8.max := by simpa [Lit.wf] using w1
 have h2' : IntKind.u8.min ≤ a2 ∧ a2 ≤ IntKind.u8.max := by simpa [Lit.wf] using w2
 have h3' : IntKind.u8.min ≤ a3 ∧ a3 ≤ IntKind.u8.max := by simpa [Lit.wf] using w3
 have h4' : IntKind.u16.min ≤ a4 ∧ a4 ≤ IntKind.u16.max := by simpa [Lit.wf] using w4
 have h1 : 0 ≤ a1 ∧ a1 ≤ 255 := h1'
 have h2 : 0 ≤ a2 ∧ a2 ≤ 255 := h2'
 have h3 : 0 ≤ a3 ∧ a3 ≤ 255 := h3'
 have h4 : 0 ≤ a4 ∧ a4 ≤ 65535 := h4'
 obtain ⟨n1, rfl⟩ : ∃ n : Nat, a1 = n := ⟨a1.toNat, by omega⟩
 obtain ⟨n2, rfl⟩ : ∃ n : Nat, a2 = n := ⟨a2.toNat, by omega⟩
 obtain ⟨n3, rfl⟩ : ∃ n : Nat, a3 = n := ⟨a3.toNat, by omega⟩
 obtain ⟨n4, rfl⟩ : ∃ n : Nat, a4 = n := ⟨a4.toNat, by omega⟩
 exact l9_exact a0 x0 n1 n2 n3 n4 w w0 (by omega) (by omega) (by omega) (by omega)
end Go.Proofs.Ytjdgkmcmgagkgaa
