/- ReadTrue: its walk from the phases that fit on. -/
import Derived.Test.YtjdgkmcmgagkgaaTrueC
import Derived.Test.YtjdgkmcmgagkgaaRdSimV
namespace Go.Proofs.Ytjdgkmcmgagkgaa
set_option maxRecDepth 100000
set_option maxHeartbeats 4000000
open Go.RowKit
set_option linter.unusedVariables false
set_option linter.unusedSimpArgs false
theorem fit_of_wf {x : Int} (h : (Lit.int .i64 x).wf = true) : fit64 x := by
 have h' : IntKind.i64.min ≤ x ∧ x ≤ IntKind.i64.max := by simpa [Lit.wf] using h
 exact h'
theorem true_Fit {p : Prog} {cuts noise : Int} {sm : List Nat} {other : List Int} (h : TrueIn p cuts noise sm) (hpf : p.fits) (hof : ∀ x ∈ other, fit64 x) : (picP p other cuts noise sm).Fit := by
 have hok := true_ok other h
 have hst := hok.steps
 refine ⟨?_, ?_, ?_, ?_, fun r hr => ?_, fun d hd => ?_⟩
 ·have h1 := hok.tl; have h2 := hok.tle; have h3 := hok.th; unfold fit64; omega
 ·have h1 := hok.tl; have h2 := hok.tle; have h3 := hok.th; unfold fit64; omega
 ·have h1 := hok.al; have h2 := hok.ale; have h3 := hok.ah; unfold fit64; omega
 ·have h1 := hok.al; have h2 := hok.ale; have h3 := hok.ah; unfold fit64; omega
 ·obtain ⟨a1, a2, a3, a4, a5⟩ := hok.rd r hr
  unfold fit64
  omega
 ·unfold picP at hd
  have hr : ∀ x ∈ p.ros, fit64 x := fun x hx => fit_of_wf (hpf.1 x hx)
  have hb : ∀ x ∈ p.rub, fit64 x := fun x hx => fit_of_wf (hpf.2.1 x hx)
  cases ht : twoB p other with
  | true =>
   rw [ht] at hd
   simp at hd
   rcases hd with rfl | rfl
   ·exact ⟨hof, hb⟩
   ·exact ⟨hr, hb⟩
  | false =>
   rw [ht] at hd
   simp at hd
   subst hd
   exact ⟨hr, hb⟩
def fnB (l : List Int) (y : Int) (k : Nat) : Bool := (l.take k).any fun x => decide (x = y)
theorem fnB_succ {l : List Int} {y : Int} {k : Nat} (hk : k < l.length) : fnB l y (k + 1) = (fnB l y k || decide (l[k] = y)) := by
 unfold fnB
 rw [List.take_succ_eq_append_getElem hk, List.any_append]
 simp
theorem fnB_all {l : List Int} {y : Int} (h : y ∈ l) : fnB l y l.length = true := by
 unfold fnB
 rw [List.take_length, List.any_eq_true]
 exact ⟨y, h, decide_eq_true rfl⟩
theorem lastC_in {q : Pic} (h : PicOk q) : (lastC q.rds).toNat + 1 ≤ 12 := by
 have := lastC_le (rds := q.rds) fun r hr => (h.rd r hr).1
 omega
def TrRel2 (V : World) (B1 B2 B3 gf of nf cf gp cp : Nat) (a : Act) (W : World) : Prop :=
 ∃ (t : Array Value) (j : Nat), a = { tmps := t, defers := [] } ∧ (∃ u : Nat → Value, t = #[(u 0), (u 1), (u 2), (u 3), (u 4), .pointer (some ⟨B1, 0, none⟩), (u 6), (u 7), (u 8), (u 9), .bool false, .bool true, .pointer (some ⟨B2, 0, none⟩), (u 13), (u 14), (u 15), (u 16), (u 17), .pointer (some ⟨B3, 0, none⟩), (u 19), .slice (some ⟨gf, of, none⟩) nf cf, (u 21), .slice (some ⟨gp, 0, none⟩) nf cp, (u 23), (u 24), (u 25), (u 26), (u 27), (u 28), (u 29), (u 30), (u 31), (u 32), (u 33), (u 34), (u 35), (u 36), (u 37), (u 38), (u 39), (u 40), (u 41), (u 42), (u 43), (u 44), (u 45), (u 46), (u 47), (u 48), (u 49), (u 50), (u 51), (u 52), (u 53), (u 54), (u 55), (u 56), (u 57), (u 58), (u 59), (u 60), (u 61), (u 62), (u 63), (u 64), (u 65), (u 66), (u 67), (u 68), (u 69), (u 70), (u 71), (u 72), (u 73), (u 74), (u 75), (u 76), (u 77), (u 78), (u 79), (u 80), (u 81), (u 82), (u 83), (u 84), (u 85), (u 86), (u 87), (u 88), (u 89), (u 90), (u 91), (u 92), (u 93), (u 94), (u 95), (u 96), (u 97), (u 98), (u 99), (u 100), (u 101), (u 102), (u 103), (u 104), (u 105), (u 106), (u 107), (u 108), (u 109), (u 110), (u 111), (u 112), (u 113), (u 114), (u 115), (u 116), (u 117), (u 118), (u 119), (u 120), (u 121), (u 122), (u 123), (u 124), (u 125), (u 126), (u 127), (u 128), (u 129), (u 130), (u 131), (u 132), (u 133), (u 134), (u 135), (u 136), (u 137), (u 138), (u 139), (u 140), (u 141), (u 142), (u 143), (u 144), (u 145), (u 146), (u 147), (u 148), (u 149), (u 150), (u 151), (u 152), (u 153), (u 154), (u 155), (u 156), (u 157), (u 158), (u 159), (u 160), (u 161), (u 162), (u 163), (u 164), (u 165), (u 166), (u 167), (u 168), (u 169), (u 170), (u 171), (u 172), (u 173), (u 174), (u 175), (u 176), (u 177), (u 178), (u 179), (u 180), (u 181), (u 182), (u 183), (u 184), (u 185), (u 186), (u 187), (u 188), (u 189), (u 190), (u 191), (u 192), .int .i64 (nf : Int), .int .i64 (j : Int), (u 195), (u 196), (u 197), (u 198), (u 199), (u 200), (u 201), (u 202), (u 203), (u 204), (u 205), (u 206), (u 207), (u 208), (u 209), (u 210), (u 211), (u 212), (u 213), (u 214), (u 215), (u 216), (u 217), (u 218), (u 219), (u 220), (u 221), (u 222), (u 223), (u 224), (u 225), (u 226), (u 227), (u 228), (u 229), (u 230), (u 231), (u 232), (u 233), (u 234), (u 235), (u 236), (u 237), (u 238), (u 239), (u 240), (u 241), (u 242), (u 243), (u 244), (u 245)]) ∧ j ≤ nf ∧ Hid (Below V.heap.size V W)
def TrRel3 (V : World) (B1 B2 B3 gf of nf cf gp cp j nr : Nat) (l : List Int) (y : Int) (a : Act) (W : World) : Prop :=
 ∃ (t : Array Value) (k : Nat) (fa : Bool), a = { tmps := t, defers := [] } ∧ (∃ u : Nat → Value, t = #[(u 0), (u 1), (u 2), (u 3), (u 4), .pointer (some ⟨B1, 0, none⟩), (u 6), (u 7), (u 8), (u 9), .bool false, .bool true, .pointer (some ⟨B2, 0, none⟩), (u 13), (u 14), (u 15), (u 16), (u 17), .pointer (some ⟨B3, 0, none⟩), (u 19), .slice (some ⟨gf, of, none⟩) nf cf, (u 21), .slice (some ⟨gp, 0, none⟩) nf cp, (u 23), .int .i64 (j : Int), .bool fa, (u 26), (u 27), (u 28), (u 29), (u 30), (u 31), (u 32), (u 33), (u 34), (u 35), (u 36), (u 37), (u 38), (u 39), (u 40), (u 41), (u 42), (u 43), (u 44), (u 45), (u 46), (u 47), (u 48), (u 49), (u 50), (u 51), (u 52), (u 53), (u 54), (u 55), (u 56), (u 57), (u 58), (u 59), (u 60), (u 61), (u 62), (u 63), (u 64), (u 65), (u 66), (u 67), (u 68), (u 69), (u 70), (u 71), (u 72), (u 73), (u 74), (u 75), (u 76), (u 77), (u 78), (u 79), (u 80), (u 81), (u 82), (u 83), (u 84), (u 85), (u 86), (u 87), (u 88), (u 89), (u 90), (u 91), (u 92), (u 93), (u 94), (u 95), (u 96), (u 97), (u 98), (u 99), (u 100), (u 101), (u 102), (u 103), (u 104), (u 105), (u 106), (u 107), (u 108), (u 109), (u 110), (u 111), (u 112), (u 113), (u 114), (u 115), (u 116), (u 117), (u 118), (u 119), (u 120), (u 121), (u 122), (u 123), (u 124), (u 125), (u 126), (u 127), (u 128), (u 129), (u 130), (u 131), (u 132), (u 133), (u 134), (u 135), (u 136), (u 137), (u 138), (u 139), (u 140), (u 141), (u 142), (u 143), (u 144), (u 145), (u 146), (u 147), (u 148), (u 149), (u 150), (u 151), (u 152), (u 153), (u 154), (u 155), (u 156), (u 157), (u 158), (u 159), (u 160), (u 161), (u 162), (u 163), (u 164), (u 165), (u 166), (u 167), (u 168), (u 169), (u 170), (u 171), (u 172), (u 173), (u 174), (u 175), (u 176), (u 177), (u 178), (u 179), (u 180), (u 181), (u 182), (u 183), (u 184), (u 185), (u 186), (u 187), (u 188), (u 189), (u 190), (u 191), (u 192), .int .i64 (nf : Int), .int .i64 (j : Int), (u 195), (u 196), (u 197), (u 198), (u 199), (u 200), .int .i64 (nr : Int), .int .i64 (k : Int), (u 203), (u 204), (u 205), (u 206), (u 207), (u 208), (u 209), (u 210), (u 211), (u 212), (u 213), (u 214), (u 215), (u 216), (u 217), (u 218), (u 219), (u 220), (u 221), (u 222), (u 223), (u 224), (u 225), (u 226), (u 227), (u 228), (u 229), (u 230), (u 231), (u 232), (u 233), (u 234), (u 235), (u 236), (u 237), (u 238), (u 239), (u 240), (u 241), (u 242), (u 243), (u 244), (u 245)]) ∧ k ≤ nr ∧ Hid (fa = fnB l y k) ∧ Hid (Below V.heap.size V W)
noncomputable def tr20 : Code := (fromRegionN 20 ((Try.f5).body.getD .skip)).getD 0 .skip
def TrPost (w : World) (e : Ending) (w' : World) : Prop := e = .returned (.bool true) ∧ Below w.heap.size w w'
noncomputable def tr26 : Code := (fromRegionN 26 ((Try.f5).body.getD .skip)).getD 0 .skip
theorem true_b3 (B1 B2 B3 gf of nf cf gp cp gr or cr j : Nat) (R : List Int) (y : Int) (W4 : World) (hlt : j < nf) (q0 : W4.cell? ⟨gf, of + j, none⟩ = some (.slice (some ⟨gr, or, none⟩) R.length cr)) (q2 : W4.cell? ⟨gp, j, none⟩ = some (.int .i64 y)) (hyR : y ∈ R) (hRb : R.length ≤ 96)
  (hgf : gf < W4.heap.size) (hgp : gp < W4.heap.size) (hgr : gr < W4.heap.size) (hrc : ∀ k (hk : k < R.length), W4.cell? ⟨gr, or + k, none⟩ = some (.int .i64 R[k])) (Q : Exit → Act → World → Prop)
  (hQ : ∀ t' W', (∃ u : Nat → Value, t' = #[(u 0), (u 1), (u 2), (u 3), (u 4), .pointer (some ⟨B1, 0, none⟩), (u 6), (u 7), (u 8), (u 9), .bool false, .bool true, .pointer (some ⟨B2, 0, none⟩), (u 13), (u 14), (u 15), (u 16), (u 17), .pointer (some ⟨B3, 0, none⟩), (u 19), .slice (some ⟨gf, of, none⟩) nf cf, (u 21), .slice (some ⟨gp, 0, none⟩) nf cp, (u 23), (u 24), (u 25), (u 26), (u 27), (u 28), (u 29), (u 30), (u 31), (u 32), (u 33), (u 34), (u 35), (u 36), (u 37), (u 38), (u 39), (u 40), (u 41), (u 42), (u 43), (u 44), (u 45), (u 46), (u 47), (u 48), (u 49), (u 50), (u 51), (u 52), (u 53), (u 54), (u 55), (u 56), (u 57), (u 58), (u 59), (u 60), (u 61), (u 62), (u 63), (u 64), (u 65), (u 66), (u 67), (u 68), (u 69), (u 70), (u 71), (u 72), (u 73), (u 74), (u 75), (u 76), (u 77), (u 78), (u 79), (u 80), (u 81), (u 82), (u 83), (u 84), (u 85), (u 86), (u 87), (u 88), (u 89), (u 90), (u 91), (u 92), (u 93), (u 94), (u 95), (u 96), (u 97), (u 98), (u 99), (u 100), (u 101), (u 102), (u 103), (u 104), (u 105), (u 106), (u 107), (u 108), (u 109), (u 110), (u 111), (u 112), (u 113), (u 114), (u 115), (u 116), (u 117), (u 118), (u 119), (u 120), (u 121), (u 122), (u 123), (u 124), (u 125), (u 126), (u 127), (u 128), (u 129), (u 130), (u 131), (u 132), (u 133), (u 134), (u 135), (u 136), (u 137), (u 138), (u 139), (u 140), (u 141), (u 142), (u 143), (u 144), (u 145), (u 146), (u 147), (u 148), (u 149), (u 150), (u 151), (u 152), (u 153), (u 154), (u 155), (u 156), (u 157), (u 158), (u 159), (u 160), (u 161), (u 162), (u 163), (u 164), (u 165), (u 166), (u 167), (u 168), (u 169), (u 170), (u 171), (u 172), (u 173), (u 174), (u 175), (u 176), (u 177), (u 178), (u 179), (u 180), (u 181), (u 182), (u 183), (u 184), (u 185), (u 186), (u 187), (u 188), (u 189), (u 190), (u 191), (u 192), .int .i64 (nf : Int), .int .i64 (j : Int), (u 195), (u 196), (u 197), (u 198), (u 199), (u 200), (u 201), (u 202), (u 203), (u 204), (u 205), (u 206), (u 207), (u 208), (u 209), (u 210), (u 211), (u 212), (u 213), (u 214), (u 215), (u 216), (u 217), (u 218), (u 219), (u 220), (u 221), (u 222), (u 223), (u 224), (u 225), (u 226), (u 227), (u 228), (u 229), (u 230), (u 231), (u 232), (u 233), (u 234), (u 235), (u 236), (u 237), (u 238), (u 239), (u 240), (u 241), (u 242), (u 243), (u 244), (u 245)]) → Below W4.heap.size W4 W' → Q .normal { tmps := t', defers := [] } W') (t' : Array Value) (ht : ∃ u : Nat → Value, t' = #[(u 0), (u 1), (u 2), (u 3), (u 4), .pointer (some ⟨B1, 0, none⟩), (u 6), (u 7), (u 8), (u 9), .bool false, .bool true, .pointer (some ⟨B2, 0, none⟩), (u 13), (u 14), (u 15), (u 16), (u 17), .pointer (some ⟨B3, 0, none⟩), (u 19), .slice (some ⟨gf, of, none⟩) nf cf, (u 21), .slice (some ⟨gp, 0, none⟩) nf cp, (u 23), (u 24), (u 25), (u 26), (u 27), (u 28), (u 29), (u 30), (u 31), (u 32), (u 33), (u 34), (u 35), (u 36), (u 37), (u 38), (u 39), (u 40), (u 41), (u 42), (u 43), (u 44), (u 45), (u 46), (u 47), (u 48), (u 49), (u 50), (u 51), (u 52), (u 53), (u 54), (u 55), (u 56), (u 57), (u 58), (u 59), (u 60), (u 61), (u 62), (u 63), (u 64), (u 65), (u 66), (u 67), (u 68), (u 69), (u 70), (u 71), (u 72), (u 73), (u 74), (u 75), (u 76), (u 77), (u 78), (u 79), (u 80), (u 81), (u 82), (u 83), (u 84), (u 85), (u 86), (u 87), (u 88), (u 89), (u 90), (u 91), (u 92), (u 93), (u 94), (u 95), (u 96), (u 97), (u 98), (u 99), (u 100), (u 101), (u 102), (u 103), (u 104), (u 105), (u 106), (u 107), (u 108), (u 109), (u 110), (u 111), (u 112), (u 113), (u 114), (u 115), (u 116), (u 117), (u 118), (u 119), (u 120), (u 121), (u 122), (u 123), (u 124), (u 125), (u 126), (u 127), (u 128), (u 129), (u 130), (u 131), (u 132), (u 133), (u 134), (u 135), (u 136), (u 137), (u 138), (u 139), (u 140), (u 141), (u 142), (u 143), (u 144), (u 145), (u 146), (u 147), (u 148), (u 149), (u 150), (u 151), (u 152), (u 153), (u 154), (u 155), (u 156), (u 157), (u 158), (u 159), (u 160), (u 161), (u 162), (u 163), (u 164), (u 165), (u 166), (u 167), (u 168), (u 169), (u 170), (u 171), (u 172), (u 173), (u 174), (u 175), (u 176), (u 177), (u 178), (u 179), (u 180), (u 181), (u 182), (u 183), (u 184), (u 185), (u 186), (u 187), (u 188), (u 189), (u 190), (u 191), (u 192), .int .i64 (nf : Int), .int .i64 (j : Int), (u 195), (u 196), (u 197), (u 198), (u 199), (u 200), (u 201), (u 202), (u 203), (u 204), (u 205), (u 206), (u 207), (u 208), (u 209), (u 210), (u 211), (u 212), (u 213), (u 214), (u 215), (u 216), (u 217), (u 218), (u 219), (u 220), (u 221), (u 222), (u 223), (u 224), (u 225), (u 226), (u 227), (u 228), (u 229), (u 230), (u 231), (u 232), (u 233), (u 234), (u 235), (u 236), (u 237), (u 238), (u 239), (u 240), (u 241), (u 242), (u 243), (u 244), (u 245)]) :
  ∀ K : Act → World → Prop, (∀ a w, (seqRT tr26).wp Try.prog Q a w → K a w) → (seqLT tr26).wp Try.prog (Exit.then K Q) { tmps := t', defers := [] } W4 := by
 intro K hK
 obtain ⟨u, rfl⟩ := ht
 conv => arg 2; whnf
 have hR0 : 0 < R.length := List.length_pos_of_mem hyR
 have hall := fnB_all hyR
 obtain ⟨nr, hnr⟩ : ∃ n, R.length = n := ⟨_, rfl⟩
 rw [hnr] at q0 hR0 hall hRb
 have j1 : (j : Int) < (nf : Int) := by omega
 have j2 : (0 : Int) ≤ (j : Int) := by omega
 have ⟨hq0', hq2'⟩ := hyd2 q0 q2
 clear q2
 have ⟨hyR', hrc', hnr', hall', hQ'⟩ := hyd5 hyR hrc hnr hall hQ
 clear hQ hall hnr hrc hyR
 go_wp2_with (fail)
 conv => arg 2; whnf
 go_wp2_with (fail)
 clear q0
 refine wp_loop (TrRel3 W4 B1 B2 B3 gf of nf cf gp cp j nr R y) (fun a _ => nr - (intOf (a.tmps.getD 202 undef)).toNat) ?start ?round
 case start => exact ⟨_, 0, false, rfl, frame_mkN _ _ (by kernel_rfl), Nat.zero_le _, Lib.hid rfl, Lib.hid (Below.refl _ _)⟩
 case round =>
  rintro a W5 ⟨t, k, fa9, rfl, ⟨u, rfl⟩, hk, hfa, hb5⟩
  by_cases hlt2 : k < nr
  ·have hkl : k < R.length := by rw [hnr'.out]; exact hlt2
   have q1 := (Below.cell hb5.out (p := ⟨gr, or + k, none⟩) hgr).trans (hrc'.out k hkl)
   have q0 := (Below.cell hb5.out (p := ⟨gf, of + j, none⟩) hgf).trans hq0'.out
   have q2 := (Below.cell hb5.out (p := ⟨gp, j, none⟩) hgp).trans hq2'.out
   have hsu := fnB_succ (y := y) hkl
   rw [← hfa.out] at hsu
   have k1 : (k : Int) < (nr : Int) := by omega
   have k2 : (k : Int) ≤ 96 := by omega
   obtain ⟨fb, hfb⟩ : ∃ b, fnB R y (k + 1) = b := ⟨_, rfl⟩
   rw [hfb] at hsu
   have ⟨q0', q1', q2', hsu', hfb'⟩ := hyd5 q0 q1 q2 hsu hfb
   clear hfb hsu q2 q1 q0
   go_upto_region 31 with (fail)
   refine true_t31 B1 B2 B3 gf of nf cf gp cp gr or nr cr j k R[k] y fa9 fb W5 hlt hlt2 q0'.out q1'.out q2'.out hsu'.out _ ?_ _ (frame_mkN _ _ (by kernel_rfl))
   rintro nq _ ⟨u, rfl⟩
   go_wp2
   refine ⟨⟨_, k + 1, fb, rfl, frame_mkN _ _ (by kernel_rfl), by omega, Lib.hid hfb'.out.symm, Lib.hid (below_drewN' hb5.out nq)⟩, ?_⟩
   clear hQ'
   simp [intOf]
   omega
  ·obtain rfl : k = nr := by omega
   obtain rfl : fa9 = true := by rw [hfa.out]; exact hall'.out
   go_wp2
   exact hQ'.out _ _ (frame_mkN _ _ (by kernel_rfl)) hb5.out
theorem true_from20 (p : Prog) (other : List Int) (cuts noise : Int) (sm : List Nat) (f : Fnd) (w W : World) (B1 B2 B3 nh oc qr qc : Nat) (QH QR : Option Addr) (v0 v1 : Value) (A5 : Option Addr) (c5 sp : Nat) (q : Pic) (hq : picP p other cuts noise sm = q)
  (h : TrueIn p cuts noise sm) (hpf : p.fits) (hof : ∀ x ∈ other, fit64 x) (ho : ownB p (lastH p other) f = true) (hff : f.Fit) (hsp : p.shifts.length = sp)
  (hvp : IsProg W (.agg #[v0, v1, .int .i64 p.start, .int .i64 p.throw, .int .i64 p.adv, .slice A5 sp c5]) p) (hpq : IsPic W (.agg #[.slice QH nh oc, .int .i64 q.tl, .int .i64 q.th, .int .i64 q.al, .int .i64 q.ah, .slice QR qr qc]) q)
  (hv0 : ∃ A n c, v0 = .slice A n c) (hv1 : ∃ A n c, v1 = .slice A n c)
  (kp : W.heap[B1]? = some (.cells #[v0, v1, .int .i64 p.start, .int .i64 p.throw, .int .i64 p.adv, .slice A5 sp c5] 46)) (kq : W.heap[B2]? = some (.cells #[.slice QH nh oc, .int .i64 q.tl, .int .i64 q.th, .int .i64 q.al, .int .i64 q.ah, .slice QR qr qc] 25))
  (kf : W.heap[B3]? = some (.cells #[.int .i64 f.head, .int .i64 f.throw, .int .i64 f.adv, .int .i64 f.lo, .int .i64 f.hi] 38)) (hbw : Below w.heap.size w W) (t : Array Value) (ht : ∃ u : Nat → Value, t = #[(u 0), (u 1), (u 2), (u 3), (u 4), .pointer (some ⟨B1, 0, none⟩), (u 6), (u 7), (u 8), (u 9), .bool false, .bool true, .pointer (some ⟨B2, 0, none⟩), (u 13), (u 14), (u 15), (u 16), (u 17), .pointer (some ⟨B3, 0, none⟩), (u 19), (u 20), (u 21), (u 22), (u 23), (u 24), (u 25), (u 26), (u 27), (u 28), (u 29), (u 30), (u 31), (u 32), (u 33), (u 34), (u 35), (u 36), (u 37), (u 38), (u 39), (u 40), (u 41), (u 42), (u 43), (u 44), (u 45), (u 46), (u 47), (u 48), (u 49), (u 50), (u 51), (u 52), (u 53), (u 54), (u 55), (u 56), (u 57), (u 58), (u 59), (u 60), (u 61), (u 62), (u 63), (u 64), (u 65), (u 66), (u 67), (u 68), (u 69), (u 70), (u 71), (u 72), (u 73), (u 74), (u 75), (u 76), (u 77), (u 78), (u 79), (u 80), (u 81), (u 82), (u 83), (u 84), (u 85), (u 86), (u 87), (u 88), (u 89), (u 90), (u 91), (u 92), (u 93), (u 94), (u 95), (u 96), (u 97), (u 98), (u 99), (u 100), (u 101), (u 102), (u 103), (u 104), (u 105), (u 106), (u 107), (u 108), (u 109), (u 110), (u 111), (u 112), (u 113), (u 114), (u 115), (u 116), (u 117), (u 118), (u 119), (u 120), (u 121), (u 122), (u 123), (u 124), (u 125), (u 126), (u 127), (u 128), (u 129), (u 130), (u 131), (u 132), (u 133), (u 134), (u 135), (u 136), (u 137), (u 138), (u 139), (u 140), (u 141), (u 142), (u 143), (u 144), (u 145), (u 146), (u 147), (u 148), (u 149), (u 150), (u 151), (u 152), (u 153), (u 154), (u 155), (u 156), (u 157), (u 158), (u 159), (u 160), (u 161), (u 162), (u 163), (u 164), (u 165), (u 166), (u 167), (u 168), (u 169), (u 170), (u 171), (u 172), (u 173), (u 174), (u 175), (u 176), (u 177), (u 178), (u 179), (u 180), (u 181), (u 182), (u 183), (u 184), (u 185), (u 186), (u 187), (u 188), (u 189), (u 190), (u 191), (u 192), (u 193), (u 194), (u 195), (u 196), (u 197), (u 198), (u 199), (u 200), (u 201), (u 202), (u 203), (u 204), (u 205), (u 206), (u 207), (u 208), (u 209), (u 210), (u 211), (u 212), (u 213), (u 214), (u 215), (u 216), (u 217), (u 218), (u 219), (u 220), (u 221), (u 222), (u 223), (u 224), (u 225), (u 226), (u 227), (u 228), (u 229), (u 230), (u 231), (u 232), (u 233), (u 234), (u 235), (u 236), (u 237), (u 238), (u 239), (u 240), (u 241), (u 242), (u 243), (u 244), (u 245)]) :
  ∀ K : Act → World → Prop, (∀ a w1, (seqRT tr20).wp Try.prog (bodyPost Try.prog Try.f5 (TrPost w)) a w1 → K a w1) → (seqLT tr20).wp Try.prog (Exit.then K (bodyPost Try.prog Try.f5 (TrPost w))) { tmps := t, defers := [] } W := by
 intro K hK
 obtain ⟨u, rfl⟩ := ht
 conv => arg 2; whnf
 obtain ⟨E0, F0, G0, rfl⟩ := hv0
 obtain ⟨E1, F1, G1, rfl⟩ := hv1
 have hp := benchFacts (see_zero h.see)
 have hqF := true_Fit (other := other) h hpf hof
 have hqO := true_ok other h
 have hstp := true_steps other h
 obtain ⟨f0, fv⟩ := true_fits (other := other) h ho
 obtain ⟨m0, m1⟩ := true_simple (other := other) h ho
 obtain ⟨o1, o2, o3, -⟩ := true_lift (cuts := cuts) (noise := noise) (sm := sm) ho
 have hph := fun c => true_phase (other := other) h ho c
 rw [hq] at hqF hqO hstp f0 fv m0 m1 hph
 have hs64 : fit64 p.start := by have := hp.start; unfold fit64; omega
 have hr96 := hp.ros1
 have kft := pf_rd_Fits _ q f p.start W hpq hqF hff hs64
 rw [f0, fv] at kft
 obtain ⟨LL, hLL⟩ : ∃ L, fitsL q f p.start = L := ⟨_, rfl⟩
 have hLg : ∀ j (hj : j < LL.length), phaseI p (j : Int) ∈ LL[j] := fun j hj => by
  subst hLL
  rw [fitsL_get]
  exact hph j
 have hLb : ∀ j (hj : j < LL.length), LL[j].length ≤ 96 := fun j hj => by
  subst hLL
  rw [fitsL_get]
  unfold phasesAt
  rw [List.length_map]
  refine Nat.le_trans (List.length_filter_le _ _) ?_
  rw [List.length_range, ← hq, (true_lift (cuts := cuts) (noise := noise) (sm := sm) ho).2.2.2.2.2, liftL_length]
  exact hp.ros1
 have hLl : 1 ≤ LL.length ∧ LL.length ≤ 12 := by
  have := lastC_in hqO
  rw [← hLL]
  unfold fitsL
  simp only [List.length_map, List.length_range]
  omega
 rw [hLL] at kft
 obtain ⟨⟨fh, ft, fa, fl, fi⟩, hfe⟩ : ∃ g, f = g := ⟨_, rfl⟩
 subst hfe
 dsimp only at o1 o2 o3 kf
 have kft2 : Calls Try.prog 14 #[.agg #[.slice QH nh oc, .int .i64 q.tl, .int .i64 q.th, .int .i64 q.al, .int .i64 q.ah, .slice QR qr qc], .agg #[.int .i64 fh, .int .i64 ft, .int .i64 fa, .int .i64 fl, .int .i64 fi], .int .i64 p.start] W fun e w' => ∃ v', e = .returned (.tuple #[v', .int .i64 0]) ∧ Below W.heap.size W w' ∧ GridL w' v' LL := kft
 have ksm := fun V h => pf_rd_Simplest _ q ⟨fh, ft, fa, fl, fi⟩ p.start V (hpq.le (W := V) h) hqF hff hs64
 rw [m0] at ksm
 obtain ⟨X, hX⟩ : ∃ X, simpP q ⟨fh, ft, fa, fl, fi⟩ p.start = X := ⟨_, rfl⟩
 rw [hX] at ksm m1
 have ksm2 : ∀ V, Below W.heap.size W V → Calls Try.prog 16 #[.agg #[.slice QH nh oc, .int .i64 q.tl, .int .i64 q.th, .int .i64 q.al, .int .i64 q.ah, .slice QR qr qc], .agg #[.int .i64 fh, .int .i64 ft, .int .i64 fa, .int .i64 fl, .int .i64 fi], .int .i64 p.start] V fun e w' => ∃ v', e = .returned (.tuple #[v', .int .i64 0]) ∧ Below V.heap.size V w' ∧ NewProg V.heap.size w' v' X := ksm
 have hfh : 0 ≤ fh := by omega
 clear kft ksm f0 fv m0 hph
 obtain ⟨c0, c1, c2, c3, c4, c5'⟩ := pc6 kp
 obtain ⟨d0, d1, d2, d3, d4, d5⟩ := pc6 kq
 obtain ⟨e0, e1, e2, e3, e4⟩ := pc5 kf
 have ⟨hp', hqF', hqO', hstp', h', hpf', hof', ho'⟩ := hyd8 hp hqF hqO hstp h hpf hof ho
 have ⟨hff', hvp', hpq', kp', kq', kf', hbw', hs64'⟩ := hyd8 hff hvp hpq kp kq kf hbw hs64
 have ⟨hr96', hLL', hLg', hLb', hLl', kft2', ksm2', hX'⟩ := hyd8 hr96 hLL hLg hLb hLl kft2 ksm2 hX
 have ⟨m1', o1', o2', o3', hsp', hq'⟩ := hyd6 m1 o1 o2 o3 hsp hq
 clear hq hsp o3 o2 o1 m1 hX ksm2 kft2 hLl hLb hLg hLL hr96 hs64 hbw kf kq kp hpq hvp hff ho hof hpf h hstp hqO hqF hp
 go_wp2_with (fail)
 go_at_call 14
 refine kft2'.out.mono ?_
 rintro e W2 ⟨vg, rfl, hb2, hg⟩
 have hLl := hLl'.out
 obtain ⟨gf, of, cf, rfl, hgf, hgc⟩ : ∃ gf of cf, vg = .slice (some ⟨gf, of, none⟩) LL.length cf ∧ gf < W2.heap.size ∧ ∀ j (hj : j < LL.length), ∃ vr, W2.cell? ⟨gf, of + j, none⟩ = some vr ∧ Ints W2 vr LL[j] := by
  obtain ⟨A, c, rfl, a1, a2, a3, a4⟩ := hg
  obtain ⟨b, off, rfl, a5, a6⟩ := a4 (by omega)
  exact ⟨b, off, c, rfl, a5, a6⟩
 obtain ⟨nf, hnf⟩ : ∃ n, LL.length = n := ⟨_, rfl⟩
 rw [hnf] at hLl ⊢
 have kp2 := blk hb2 kp'.out
 have kq2 := blk hb2 kq'.out
 have kf2 := blk hb2 kf'.out
 have hbw2 := bel_set hbw'.out hb2
 clear c0 c1 c2 c3 c4 c5' d0 d1 d2 d3 d4 d5 e0 e1 e2 e3 e4
 obtain ⟨c0, c1, c2, c3, c4, c5'⟩ := pc6 kp2
 obtain ⟨e0, e1, e2, e3, e4⟩ := pc5 kf2
 have hphE : phasesE p 0 (nf : Int) = 0 := by
  unfold phasesE
  rw [see_zero h'.out.see, if_neg (by decide), if_pos]
  rw [Bool.and_eq_true]
  exact ⟨within_iff.2 ⟨by decide, by decide⟩, within_iff.2 ⟨by omega, by omega⟩⟩
 have kph := pf_pat_Phases _ p 0 (nf : Int) W2 (hvp'.out.below hb2) 0 hphE
 rw [show onOk 0 (phasesL p 0 ((nf : Int)).toNat) = phasesL p 0 nf from rfl, phasesL_length] at kph
 have ⟨hg', hgc', hnf', hb2', kp2', kq2', kf2', hbw2'⟩ := hyd8 hg hgc hnf hb2 kp2 kq2 kf2 hbw2
 have ⟨hphE', kph'⟩ := hyd2 hphE kph
 clear kph hphE hbw2 kf2 kq2 kp2 hb2 hnf hgc hg
 go_wp2_with (fail)
 conv => arg 2; whnf
 go_wp2_with (fail)
 go_at_call 15
 refine kph'.out.mono ?_
 rintro e W3 ⟨vp, rfl, hb3, hop⟩
 obtain ⟨gp, cp, cur, rfl, hgpb, hgp, hnp, hcp, hcs, htk⟩ : ∃ gc cc cur, vp = .slice (some ⟨gc, 0, none⟩) nf cc ∧ W2.heap.size ≤ gc ∧ W3.heap[gc]? = some (.cells cur 3 (0, 0)) ∧ nf ≤ cc ∧ cc ≤ maxLen ∧ cur.size = cc * 1 ∧ cur.toList.take (nf * 1) = (phasesL p 0 nf).map vint := by
  rcases hop.2 with ⟨-, e⟩ | h
  ·omega
  ·exact h
 have hpc : ∀ j, j < nf → W3.cell? ⟨gp, j, none⟩ = some (.int .i64 (phaseI p (j : Int))) := fun j hj => by
  rw [hop.cellAt j (by omega), List.getElem?_map]
  unfold phasesL
  rw [List.getElem?_map, List.getElem?_range hj]
  simp
 have hgpl := (gsl hgp)
 have kp3 := blk hb3 kp2'.out
 have kq3 := blk hb3 kq2'.out
 have kf3 := blk hb3 kf2'.out
 have hbw3 := bel_set hbw2'.out hb3
 clear c0 c1 c2 c3 c4 c5' e0 e1 e2 e3 e4
 obtain ⟨e0, e1, e2, e3, e4⟩ := pc5 kf3
 have hnfp : (0 : Int) < (nf : Int) := by omega
 have hnfz : ((nf : Int) == 0) = false := by simp; omega
 have hnfd : decide ((nf : Int) = 0) = false := decide_eq_false (by omega)
 have hfhd : ¬ fh < 0 := by omega
 clear hop hgp hcs htk
 have ⟨hb3', kp3', kq3', kf3', hbw3', hpc'⟩ := hyd6 hb3 kp3 kq3 kf3 hbw3 hpc
 clear hpc hbw3 kf3 kq3 kp3 hb3
 go_wp2_with (fail)
 clear e0 e1 e2 e3 e4 hfhd hnfz hnfd
 refine wp_loop (TrRel2 W3 B1 B2 B3 gf of nf cf gp cp) (fun a _ => nf - (intOf (a.tmps.getD 194 undef)).toNat) ?start ?round
 case start => exact ⟨_, 0, rfl, frame_mkN _ _ (by kernel_rfl), Nat.zero_le _, Lib.hid (Below.refl _ _)⟩
 case round =>
  rintro a W4 ⟨t, j, rfl, ⟨u, rfl⟩, hj, hb4⟩
  by_cases hlt : j < nf
  ·have hjl : j < LL.length := by rw [hnf'.out]; exact hlt
   obtain ⟨vr, hvr, hri⟩ := hgc'.out j hjl
   have hyR := hLg'.out j hjl
   obtain ⟨R, hR⟩ : ∃ R, LL[j] = R := ⟨_, rfl⟩
   rw [hR] at hri hyR
   have hb24 := bel_set hb3'.out hb4.out
   have hR0 : 0 < R.length := List.length_pos_of_mem hyR
   have hri4 := hri.below hb24
   obtain ⟨gr, or, cr, rfl, hgr, -, -, hrc⟩ := Ints.cells hri4 hR0
   have q0 := (Below.cell hb24 (p := ⟨gf, of + j, none⟩) hgf).trans hvr
   have q2 := (Below.cell hb4.out (p := ⟨gp, j, none⟩) hgpl).trans (hpc'.out j hlt)
   have hgf4 : gf < W4.heap.size := Nat.lt_of_lt_of_le hgf hb24.size
   have hgp4 : gp < W4.heap.size := Nat.lt_of_lt_of_le hgpl hb4.out.size
   have j1 : (j : Int) < (nf : Int) := by omega
   have ⟨hyR', hR', hri', hb24', hri4', hrc', hvr', q0'⟩ := hyd8 hyR hR hri hb24 hri4 hrc hvr q0
   have q2' := hyd1 q2
   clear q2 q0 hvr hrc hri4 hb24 hri hR hyR
   go_upto_region 26 with (fail)
   refine true_b3 B1 B2 B3 gf of nf cf gp cp gr or cr j R _ W4 hlt q0'.out q2'.out hyR'.out (by rw [← hR'.out]; exact hLb'.out j hjl) hgf4 hgp4 hgr hrc'.out _ ?_ _ (frame_mkN _ _ (by kernel_rfl)) _ (by assumption)
   rintro _ W5 ⟨u, rfl⟩ hb5
   have hb45 := bel_set hb4.out hb5
   have ⟨hb5', hb45'⟩ := hyd2 hb5 hb45
   clear hb45 hb5
   go_wp2
   exact ⟨⟨_, j + 1, rfl, frame_mkN _ _ (by kernel_rfl), by omega, hb45'⟩, by simp [intOf]; omega⟩
  ·obtain rfl : j = nf := by omega
   have kp4 := blk hb4.out kp3'.out
   have kq4 := blk hb4.out kq3'.out
   have kf4 := blk hb4.out kf3'.out
   have hbw4 := bel_set hbw3'.out hb4.out
   have ksm4 := ksm2'.out W4 (bel_set hb2'.out (bel_set hb3'.out hb4.out))
   obtain ⟨d0, d1, d2, d3, d4, d5⟩ := pc6 kq4
   obtain ⟨e0, e1, e2, e3, e4⟩ := pc5 kf4
   obtain ⟨c0, c1, c2, c3, c4, c5'⟩ := pc6 kp4
   have ⟨kp4', kq4', kf4', hbw4', ksm4'⟩ := hyd5 kp4 kq4 kf4 hbw4 ksm4
   clear ksm4 hbw4 kf4 kq4 kp4
   go_wp2_with (fail)
   go_at_call 16
   refine ksm4'.out.mono ?_
   rintro e W6 ⟨vx, rfl, hb6, x0, x1, x5, rfl, i0, i1, i5⟩
   obtain ⟨X0, z0, rfl, -⟩ := id i0
   obtain ⟨X1, z1, rfl⟩ := slice_formR i1
   obtain ⟨X5, z5, rfl, -⟩ := id i5
   have kp6 := blk hb6 kp4'.out
   have hbw6 := bel_set hbw4'.out hb6
   obtain ⟨W7, hW7, hb7, k7⟩ := newb W6 (.cells #[.slice X0 X.ros.length z0, .slice X1 X.rub.length z1, .int .i64 X.start, .int .i64 X.throw, .int .i64 X.adv, .slice X5 X.shifts.length z5] 46)
   have hbw7 := bel_set hbw6 hb7
   have kp7 := blk hb7 kp6
   clear d0 d1 d2 d3 d4 d5 e0 e1 e2 e3 e4 c0 c1 c2 c3 c4 c5'
   obtain ⟨c0, c1, c2, c3, c4, c5'⟩ := pc6 kp7
   obtain ⟨d0, d1, d2, d3, d4, d5⟩ := pc6 k7
   have hm1 := m1'.out
   rw [hsp'.out] at hm1
   obtain ⟨sx, hsx⟩ : ∃ n, X.shifts.length = n := ⟨_, rfl⟩
   rw [hsx] at hm1 d5 hW7 ⊢
   have hli : (sx : Int) ≤ (sp : Int) := by omega
   have hld : decide ((sx : Int) ≤ (sp : Int)) = true := decide_eq_true hli
   have ⟨hb6', i0', i1', i5', kp6', hbw6', hb7', k7'⟩ := hyd8 hb6 i0 i1 i5 kp6 hbw6 hb7 k7
   have ⟨hbw7', kp7', hsx'⟩ := hyd3 hbw7 kp7 hsx
   clear hsx kp7 hbw7 k7 hb7 hbw6 kp6 i5 i1 i0 hb6
   go_wp2
   go_ret
   exact ⟨rfl, hbw7'.out⟩
end Go.Proofs.Ytjdgkmcmgagkgaa
