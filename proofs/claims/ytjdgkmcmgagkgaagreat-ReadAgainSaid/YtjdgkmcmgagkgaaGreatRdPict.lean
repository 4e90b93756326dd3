/- The picture of a program's first cuts, with some of its readings, each wider by some amounts: barleycornlaw09.picture. -/
import Derived.Test.YtjdgkmcmgagkgaaGreatRdSee
import Derived.Test.YtjdgkmcmgagkgaaGreatRdAlv
import Derived.BigRegion
import Derived.Lib.MinMax
namespace Go.Proofs.YtjdgkmcmgagkgaaGreat
set_option maxRecDepth 100000
set_option maxHeartbeats 1000000
open Go.RowKit
set_option linter.unusedVariables false
set_option linter.unusedSimpArgs false
abbrev vu8 : Nat → Value := fun n => .int .u8 (n : Int)
abbrev Bytes := Arr vu8
def keepB (sm : List Nat) (i : Nat) : Bool := decide (sm.length = 0) || decide (0 < sm.getD (i % sm.length) 0 % 4)
def widI (sm : List Nat) (i : Nat) (r : Rd) : Rd := if sm.length = 0 then r else ⟨r.cut, r.step, r.lo - ((sm.getD (i % sm.length) 0 / 64 : Nat) : Int), r.hi + ((sm.getD ((i + 1) % sm.length) 0 / 64 : Nat) : Int)⟩
def fewTo (sm : List Nat) (L : List Rd) (k : Nat) : List Rd := (List.range k).flatMap fun i => if keepB sm i then [widI sm i (L.getD i default)] else []
theorem fewTo_succ (sm : List Nat) (L : List Rd) (k : Nat) : fewTo sm L (k + 1) = fewTo sm L k ++ (if keepB sm k then [widI sm k (L.getD k default)] else []) := by unfold fewTo; rw [List.range_succ, List.flatMap_append]; simp
theorem fewTo_le (sm : List Nat) (L : List Rd) (k : Nat) : (fewTo sm L k).length ≤ k := by
 induction k with
 | zero => simp [fewTo]
 | succ k ih => rw [fewTo_succ, List.length_append]; split <;> simp <;> omega
def twoB (p : Prog) (other : List Int) : Bool := decide (other.length = p.ros.length) && rosOk other
def picP (p : Prog) (other : List Int) (cuts noise : Int) (sm : List Nat) : Pic :=
 ⟨if twoB p other then [⟨other, p.rub⟩, ⟨p.ros, p.rub⟩] else [⟨p.ros, p.rub⟩], min p.throw 15, min p.throw 15 + 1, p.adv, min (p.adv + 2) 1000, fewTo sm (seeV p cuts noise) (seeV p cuts noise).length⟩
def pictB (p : Prog) (cuts noise : Int) (sm : List Nat) : Bool := decide (seeE p cuts noise = 0) && (decide (0 ≤ p.adv) && decide (0 < (fewTo sm (seeV p cuts noise) (seeV p cuts noise).length).length))
def PiI (W1 : World) (X : Nat) (L : List Rd) (vo : Value) (W : World) : Prop := Below W1.heap.size W1 W ∧ W.ownsRow W1.heap.size 77 4 vo L.length (L.flatMap rdEnc)
theorem see_zero {p : Prog} {cuts noise : Int} (h : seeE p cuts noise = 0) : progE p = 0 := by
 unfold seeE at h
 split at h
 ·rename_i h1; exact absurd h h1
 ·rename_i h1; simpa using h1
theorem seeV_length {p : Prog} {cuts noise : Int} (h : seeE p cuts noise = 0) : (seeV p cuts noise).length ≤ 60 := by
 have h0 := h
 unfold seeE at h
 split at h
 ·rename_i h1; exact absurd h h1
 ·split at h
  ·cases h
  ·split at h
   ·cases h
   ·rename_i h3 h4 h5
    unfold seeV
    rw [h0, if_pos rfl, seeTo_length]
    simp only [Bool.not_eq_true', Bool.not_eq_false, Bool.and_eq_true] at h4
    have := (within_iff.1 h4.1)
    have h6 : ((cuts.toNat * p.ros.length : Nat) : Int) = cuts * (p.ros.length : Int) := by rw [Int.natCast_mul, Int.toNat_of_nonneg (by omega)]
    omega
theorem Arr.cells {α : Type} {f : α → Value} {w : World} {v : Value} {L : List α} (h : Arr f w v L) (h0 : 0 < L.length) : ∃ la lo c, v = .slice (some ⟨la, lo, none⟩) L.length c ∧ la < w.heap.size ∧ ∀ k (hk : k < L.length), w.cell? ⟨la, lo + k, none⟩ = some (f L[k]) := by
 obtain ⟨A, c, rfl, h1, h2, _, hr⟩ := h
 obtain ⟨la, lo, rfl, hb, hc⟩ := hr h0
 exact ⟨la, lo, c, rfl, hb, hc⟩
def PicShape (v : Value) : Prop := ∃ A n c t1 t2 t3 t4 B m d, v = .agg #[.slice A n c, .int .i64 t1, .int .i64 t2, .int .i64 t3, .int .i64 t4, .slice B m d]
theorem heads_one {W : World} {X : Nat} {v0 v1 : Value} {t : TypeId} {h : Hd} (hk : W.heap[X]? = some (.cells #[v0, v1] t)) (i0 : Ints W v0 h.ros) (i1 : Ints W v1 h.rub) : HeadsL W (.slice (some ⟨X, 0, none⟩) 1 1) [h] := by
 obtain ⟨c0, c1⟩ := pc2 hk
 refine ⟨some ⟨X, 0, none⟩, 1, rfl, Nat.le_refl _, by unfold maxLen; omega, fun h => (by cases h), fun _ => ⟨X, 0, rfl, gsl hk, fun j hj => ?_⟩⟩
 obtain rfl : j = 0 := by simp at hj; omega
 exact ⟨v0, v1, c0, c1, i0, i1⟩
theorem heads_two {W : World} {X : Nat} {v0 v1 v2 v3 : Value} {t : TypeId} {h h' : Hd} (hk : W.heap[X]? = some (.cells #[v0, v1, v2, v3] t)) (i0 : Ints W v0 h.ros) (i1 : Ints W v1 h.rub) (i2 : Ints W v2 h'.ros) (i3 : Ints W v3 h'.rub) : HeadsL W (.slice (some ⟨X, 0, none⟩) 2 2) [h, h'] := by
 obtain ⟨c0, c1, c2, c3⟩ := pc4 hk
 refine ⟨some ⟨X, 0, none⟩, 2, rfl, Nat.le_refl _, by unfold maxLen; omega, fun h => (by cases h), fun _ => ⟨X, 0, rfl, gsl hk, fun j hj => ?_⟩⟩
 have hj2 : j = 0 ∨ j = 1 := by simp at hj; omega
 rcases hj2 with rfl | rfl
 ·exact ⟨v0, v1, c0, c1, i0, i1⟩
 ·exact ⟨v2, v3, c2, c3, i2, i3⟩
def PcRel (W3 : World) (AX : Option Addr) (cX : Nat) (AS : Option Addr) (cS : Nat) (AL : Option Addr) (cL B1 B2 n m : Nat) (other : List Int) (sm : List Nat) (L : List Rd) (a : Act) (W : World) : Prop :=
 ∃ (t : Array Value) (i : Nat) (vo : Value), a = { tmps := t, defers := [] } ∧ (∃ u : Nat → Value, t = #[(u 0), .slice AX other.length cX, (u 2), (u 3), .slice AS m cS, .pointer (some ⟨B1, 0, none⟩), (u 6), (u 7), (u 8), (u 9), .pointer (some ⟨B2, 0, none⟩), .bool false, .slice AL n cL, (u 13), vo, (u 15), (u 16), (u 17), (u 18), (u 19), (u 20), (u 21), (u 22), (u 23), (u 24), (u 25), (u 26), (u 27), (u 28), (u 29), (u 30), (u 31), (u 32), (u 33), (u 34), .int .i64 (n : Int), .int .i64 (i : Int), (u 37), (u 38), (u 39), (u 40), (u 41), (u 42), (u 43), (u 44), (u 45), (u 46), (u 47), (u 48), (u 49), (u 50), (u 51), (u 52), (u 53), (u 54), (u 55), (u 56), (u 57), (u 58), (u 59), (u 60), (u 61), (u 62), (u 63), (u 64), (u 65), (u 66), (u 67), (u 68), (u 69), (u 70), (u 71), (u 72), (u 73), (u 74), (u 75), (u 76), (u 77), (u 78), (u 79), (u 80), (u 81), (u 82), (u 83), (u 84), (u 85), (u 86), (u 87), (u 88), (u 89), (u 90), (u 91), (u 92), (u 93), (u 94), (u 95), (u 96), (u 97), (u 98), (u 99), (u 100), (u 101), (u 102), (u 103), (u 104), (u 105), (u 106), (u 107), (u 108), (u 109), (u 110), (u 111), (u 112), (u 113), (u 114), (u 115), (u 116), (u 117), (u 118), (u 119), (u 120), (u 121), (u 122), (u 123), (u 124), (u 125), (u 126), (u 127), (u 128), (u 129), (u 130), (u 131), (u 132), (u 133), (u 134)]) ∧ i ≤ n ∧ Hid (PiI W3 0 (fewTo sm L i) vo W)
theorem see_mem {p : Prog} {cuts noise : Int} (h : seeE p cuts noise = 0) : (1 ≤ cuts ∧ cuts ≤ 12) ∧ (0 ≤ noise ∧ noise ≤ 1000) ∧ ∀ r ∈ seeV p cuts noise, ∃ j i : Nat, (j : Int) < cuts ∧ i < p.ros.length ∧ r = ⟨(j : Int), (i : Int), (cutL p j).getD i 0 - noise, (cutL p j).getD i 0 + noise⟩ := by
 have h0 := h
 unfold seeE at h
 split at h
 ·rename_i h1; exact absurd h h1
 ·split at h
  ·cases h
  ·rename_i h3 h4
   simp only [Bool.not_eq_true', Bool.not_eq_false, Bool.and_eq_true] at h4
   have h5 := within_iff.1 h4.1
   refine ⟨h5, within_iff.1 h4.2, fun r hr => ?_⟩
   unfold seeV seeTo seeRow at hr
   rw [h0, if_pos rfl] at hr
   simp only [List.mem_flatMap, List.mem_map, List.mem_range] at hr
   obtain ⟨j, hj, i, hi, rfl⟩ := hr
   exact ⟨j, i, by omega, hi, rfl⟩
theorem see_bd {p : Prog} {cuts noise : Int} (h : seeE p cuts noise = 0) : ∀ r ∈ seeV p cuts noise, -12000 ≤ r.lo ∧ r.lo ≤ r.hi ∧ r.hi ≤ 182000 := fun r hr => by
 obtain ⟨h1, h2, h3⟩ := see_mem h
 obtain ⟨j, i, hj, hi, rfl⟩ := h3 r hr
 have := cutL_bound (benchFacts (see_zero h)) j (by omega) i hi
 dsimp only
 omega
theorem pf_l9_picture (v vo vs : Value) (p : Prog) (other : List Int) (sm : List Nat) (cuts noise : Int) (w : World) (hv : IsProg w v p) (ho : Ints w vo other) (hs : Bytes w vs sm) (h8 : ∀ b ∈ sm, b ≤ 255) (hsl : sm.length ≤ 1000) (hc : fit64 cuts) (hno : fit64 noise) (ha : fit64 p.adv) :
  Calls Tryz.prog 25 #[v, vo, .int .i64 cuts, .int .i64 noise, vs] w fun e w' => ∃ v' b, e = .returned (.tuple #[v', .bool b]) ∧ Below w.heap.size w w' ∧ b = pictB p cuts noise sm ∧ PicShape v' ∧ (b = true → IsPic w' v' (picP p other cuts noise sm)) := by
 have hv9 := hv
 obtain ⟨v0, v1, v5, rfl, h0, h1, h5⟩ := hv
 obtain ⟨A0, c0, rfl, -⟩ := id h0
 obtain ⟨A1, c1, rfl, -⟩ := id h1
 obtain ⟨A5, c5, rfl, -⟩ := id h5
 obtain ⟨AX, cX, rfl, -⟩ := id ho
 obtain ⟨AS, cS, rfl, -⟩ := id hs
 obtain ⟨m, hm⟩ : ∃ n, sm.length = n := ⟨_, rfl⟩
 rw [hm] at hs hsl ⊢
 obtain ⟨W1, hW1, hb1, k1⟩ := newb w (.cells #[.slice A0 p.ros.length c0, .slice A1 p.rub.length c1, .int .i64 p.start, .int .i64 p.throw, .int .i64 p.adv, .slice A5 p.shifts.length c5] 28)
 obtain ⟨W2, hW2, hb2, k2⟩ := newb W1 (.cells #[.slice none 0 0, .int .i64 0, .int .i64 0, .int .i64 0, .int .i64 0, .slice none 0 0] 25)
 have k12 := blk hb2 k1
 have hbw2 := bel_set hb1 hb2
 have hwz : w.heap.size ≤ W1.heap.size := hb1.size
 obtain ⟨d0, d1, d2, d3, d4, d5⟩ := pc6 k12
 have kse := pf_rd_See _ p cuts noise W2 (hv9.below hbw2) hc hno
 obtain ⟨E, hE⟩ : ∃ E, seeE p cuts noise = E := ⟨_, rfl⟩
 rw [hE] at kse
 have ⟨hm', hv9', h0', h1', h5', ho', hs', h8'⟩ := hyd8 hm hv9 h0 h1 h5 ho hs h8
 have ⟨hb1', k1', hb2', k2', k12', hbw2', hwz', kse'⟩ := hyd8 hb1 k1 hb2 k2 k12 hbw2 hwz kse
 have ⟨hE', hc', hno'⟩ := hyd3 hE hc hno
 clear hno hc hE kse hwz hbw2 k12 k2 hb2 k1 hb1 h8 hs ho h5 h1 h0 hv9 hm
 go_enter Tryz.func25, Tryz.ntmps25
 go_wp2_with (fail)
 clear hW1 hW2
 go_at_call 11
 refine kse'.out.mono ?_
 rintro e W3 ⟨vl, rfl, hb3, hl⟩
 have hbw3 := bel_set hbw2'.out hb3
 have k13 := blk hb3 k12'.out
 have k23 := blk hb3 k2'.out
 clear d0 d1 d2 d3 d4 d5
 obtain ⟨d0, d1, d2, d3, d4, d5⟩ := pc6 k13
 obtain ⟨e0, e1, e2, e3, e4, e5⟩ := pc6 k23
 by_cases hbad : E = 0 ∧ 0 ≤ p.adv
 ·obtain ⟨rfl, ha0⟩ := hbad
  have hp0 := see_zero hE'.out
  have hp := benchFacts hp0
  have h60 := seeV_length hE'.out
  obtain ⟨L, hL⟩ : ∃ L, seeV p cuts noise = L := ⟨_, rfl⟩
  rw [hL] at hl h60
  obtain ⟨AL, cL, rfl, -⟩ := hl.slice
  obtain ⟨n, hn⟩ : ∃ n, L.length = n := ⟨_, rfl⟩
  rw [hn] at h60 ⊢
  have hI0 : PiI W3 0 (fewTo sm L 0) (.slice none 0 0) W3 := ⟨Below.refl _ _, World.ownsRow_nil _ _ _ _⟩
  have ⟨hb3', hbw3', k13', k23', hp0', hp', hL', hn'⟩ := hyd8 hb3 hbw3 k13 k23 hp0 hp hL hn
  have ⟨hl', hI0'⟩ := hyd2 hl hI0
  clear hI0 hl hn hL hp hp0 k23 k13 hbw3 hb3
  go_wp2_with (fail)
  have hsb := see_bd hE'.out
  rw [hL'.out] at hsb
  have hsb' := hyd1 hsb
  clear hsb
  refine wp_loop (PcRel W3 AX cX AS cS AL cL w.heap.size W1.heap.size n m other sm L) (fun a _ => n - (intOf (a.tmps.getD 36 undef)).toNat) ?start ?round
  case start => exact ⟨_, 0, _, rfl, frame_mkN _ _ (by kernel_rfl), Nat.zero_le _, hI0'⟩
  case round =>
   rintro a wr ⟨t, i, vo, rfl, ⟨u, rfl⟩, hi, hI⟩
   obtain ⟨hbr, ho⟩ := hI.out
   obtain ⟨AV, cV, rfl⟩ := slice_formR ho
   obtain ⟨F, hF⟩ : ∃ F, fewTo sm L i = F := ⟨_, rfl⟩
   have hFl := fewTo_le sm L i
   rw [hF] at ho hFl
   rw [hF]
   obtain ⟨NV, hNV⟩ : ∃ N, F.length = N := ⟨_, rfl⟩
   rw [hNV] at ho hFl
   rw [hNV]
   have hNb : NV ≤ 60 := by omega
   clear d0 d1 d2 d3 d4 d5 e0 e1 e2 e3 e4 e5
   by_cases hlt : i < n
   ·have hww := bel_set hbw3'.out hbr
    have hiL : i < L.length := by rw [hn'.out]; exact hlt
    obtain ⟨bl, ol, zl, heq, hbl, g0, g1, g2, g3⟩ := RdsL.cells (hl'.out.le hbr) hiL
    rw [hn'.out] at heq
    injection heq with x1 x2 x3
    subst x1 x3
    clear x2
    have hrb := hsb'.out _ (List.getElem_mem hiL)
    have hgd : L.getD i default = L[i] := by rw [List.getD_eq_getElem?_getD, List.getElem?_eq_getElem hiL]; rfl
    obtain ⟨⟨rc, rs, lo, up⟩, hrr⟩ : ∃ r, L[i] = r := ⟨_, rfl⟩
    rw [hrr] at g0 g1 g2 g3 hrb hgd
    dsimp only at g0 g1 g2 g3 hrb
    have j1 : (i : Int) < (n : Int) := by omega
    have j2 : (0 : Int) ≤ (i : Int) := by omega
    obtain ⟨Wx, hWx, hbx, kx⟩ := newb wr (.cells #[.int .i64 rc, .int .i64 rs, .int .i64 lo, .int .i64 up] 77)
    have hbrx := bel_set hbr hbx
    have hox := own_below ho hbx
    obtain ⟨y0, y1, y2, y3⟩ := pc4 kx
    by_cases hm0 : m = 0
    ·subst hm0
     have hml : sm.length = 0 := hm'.out
     have hkeep : keepB sm i = true := by unfold keepB; rw [hml]; rfl
     have hwid : widI sm i (L.getD i default) = ⟨rc, rs, lo, up⟩ := by unfold widI; rw [if_pos hml, hgd]
     have hov := hox
     have hbv := hbrx
     have ⟨hI', hbr', ho', hF', hNb', hNV', hww', hgd'⟩ := hyd8 hI hbr ho hF hNb hNV hww hgd
     have ⟨hrr', hbx', kx', hbrx', hox', hrb', hml'⟩ := hyd7 hrr hbx kx hbrx hox hrb hml
     clear hml hrb hox hbrx kx hbx hrr hgd hww hNV hNb hF ho hbr hI
     obtain ⟨Wa, hWa, hba, ka⟩ := newb Wx (.cells #[.int .i64 rc, .int .i64 rs, .int .i64 lo, .int .i64 up] 77)
     obtain ⟨na0, na1, na2, na3⟩ := pc4 ka
     have hnew : ∀ (k : Nat) (u : Value), (rdEnc ⟨rc, rs, lo, up⟩)[k]? = some u → Wa.cell? ⟨Wx.heap.size, k, none⟩ = some u := fun k u hu => by
      have hi4 : k < 4 := (List.getElem?_eq_some_iff.1 hu).1
      match k, hi4 with
      | 0, _ => rw [na0]; simpa [rdEnc] using hu
      | 1, _ => rw [na1]; simpa [rdEnc] using hu
      | 2, _ => rw [na2]; simpa [rdEnc] using hu
      | 3, _ => rw [na3]; simpa [rdEnc] using hu
     have hoa := own_below hov hba
     have hbva := bel_set hbv hba
     have hza := hbva.size
     have hfs : fewTo sm L (i + 1) = F ++ [⟨rc, rs, lo, up⟩] := by rw [fewTo_succ, hF'.out, hkeep, if_pos rfl, hwid]
     clear na0 na1 na2 na3
     have ⟨hbv', hov', hfs', hba', ka', hnew', hoa', hbva'⟩ := hyd8 hbv hov hfs hba ka hnew hoa hbva
     have ⟨hkeep', hwid'⟩ := hyd2 hkeep hwid
     clear hwid hkeep hbva hoa hnew ka hba hfs hov hbv
     go_wp2_with (first | (at_builtin; go_must (refine wpList_appT (enc := rdEnc) (k := 4) (bytes := 32) _ rfl _ _ 23 (fun _ => rfl) (fun x u hu => by simp [rdEnc] at hu; rcases hu with rfl | rfl | rfl | rfl <;> rfl) (by decide) rfl (by decide) rfl W3.heap.size 77 Tryz.underlying23 rdgInfo (.slice AV NV cV) F rfl (by rw [hNV'.out]; exact hoa'.out) Wx.heap.size ⟨rc, rs, lo, up⟩ rfl hnew'.out (by rw [hNV'.out]; have := hNb'.out; omega) hza ?_)))
     intro v7 w7 q1 q2 q3
     have q1b : w7.ownsRow W3.heap.size 77 4 v7 (NV + 1) ((fewTo sm L (i + 1)).flatMap rdEnc) := by rw [hNV'.out] at q1; rw [hfs'.out, List.flatMap_append, List.flatMap_singleton]; exact q1
     have hl7 : (fewTo sm L (i + 1)).length = NV + 1 := by rw [hfs'.out, List.length_append, hNV'.out]; rfl
     obtain ⟨A7, c7, rfl⟩ := slice_formR q1b
     have hN7 : PiI W3 0 (fewTo sm L (i + 1)) (.slice A7 (NV + 1) c7) w7 := ⟨hbva'.out.trans (own_bel hoa'.out q2 hza), by rw [hl7]; exact q1b⟩
     have ⟨q1', q1b', q2', q3', hl7', hN7'⟩ := hyd6 q1 q1b q2 q3 hl7 hN7
     clear hN7 hl7 q3 q2 q1b q1
     go_wp2
     exact ⟨⟨_, i + 1, _, rfl, frame_mkN _ _ (by kernel_rfl), by omega, hN7'⟩, by simp [intOf]; omega⟩
    ·have hm := hm'.out
     have hmp : 0 < sm.length := by omega
     obtain ⟨gs, os, zs, heq, hgs, hsc⟩ := Arr.cells hs'.out hmp
     rw [hm] at heq
     injection heq with x1 x2 x3
     subst x1 x3
     clear x2
     obtain ⟨q, hq⟩ : ∃ q, i % m = q := ⟨_, rfl⟩
     obtain ⟨q', hq'⟩ : ∃ q, (i + 1) % m = q := ⟨_, rfl⟩
     have hqm : q < m := by rw [← hq]; exact Nat.mod_lt _ (by omega)
     have hqm' : q' < m := by rw [← hq']; exact Nat.mod_lt _ (by omega)
     have hql : q < sm.length := by omega
     have hql' : q' < sm.length := by omega
     have s0 := hsc q hql
     have s1 := hsc q' hql'
     have b8 := h8'.out _ (List.getElem_mem hql)
     have b8' := h8'.out _ (List.getElem_mem hql')
     have hgq : sm.getD (i % sm.length) 0 = sm[q] := by rw [hm, hq, List.getD_eq_getElem?_getD, List.getElem?_eq_getElem hql]; rfl
     have hgq' : sm.getD ((i + 1) % sm.length) 0 = sm[q'] := by rw [hm, hq', List.getD_eq_getElem?_getD, List.getElem?_eq_getElem hql']; rfl
     obtain ⟨b, hb⟩ : ∃ b, sm[q] = b := ⟨_, rfl⟩
     obtain ⟨b', hb'⟩ : ∃ b, sm[q'] = b := ⟨_, rfl⟩
     rw [hb] at s0 b8 hgq
     rw [hb'] at s1 b8' hgq'
     have s0r := (Below.cell hww (p := ⟨gs, os + q, none⟩) hgs).trans s0
     have X1 : (i : Int).tmod (m : Int) = (q : Int) := by rw [← hq]; rfl
     have Y1 : (i : Int) % (m : Int) = (q : Int) := by rw [← hq]; rfl
     have R1 : ¬ (m : Int) = 0 := by omega
     have R2 : ¬ m = 0 := hm0
     have R3 : (0 : Int) < (m : Int) := by omega
     have R4 : 0 < m := by omega
     have I1 : (0 : Int) ≤ (q : Int) := by omega
     have I2 : (q : Int) < (m : Int) := by omega
     obtain ⟨b4, hb4⟩ : ∃ y, b % 4 = y := ⟨_, rfl⟩
     have X2 : (b : Int).tmod 4 = (b4 : Int) := by rw [← hb4]; rfl
     have Y2 : (b : Int) % 4 = (b4 : Int) := by rw [← hb4]; rfl
     have B1 : (0 : Int) ≤ (b : Int) := by omega
     have B2 : (b : Int) ≤ 255 := by omega
     by_cases hz : b4 = 0
     ·have hkeep : keepB sm i = false := by unfold keepB; rw [hgq, hb4, hz, hm]; simp [hm0]
      have hfs : fewTo sm L (i + 1) = F := by rw [fewTo_succ, hF, hkeep]; simp
      have hN7 : PiI W3 0 (fewTo sm L (i + 1)) (.slice AV NV cV) wr := ⟨hbr, by rw [hfs, hNV]; exact ho⟩
      subst hz
      have Z1 : ¬ (0 : Int) < ((0 : Nat) : Int) := by omega
      clear hWx
      have ⟨hI', hbr', ho', hF', hNb', hNV', hww', hgd'⟩ := hyd8 hI hbr ho hF hNb hNV hww hgd
      have ⟨hrr', hbx', kx', hbrx', hox', hrb', hm', hkeep'⟩ := hyd8 hrr hbx kx hbrx hox hrb hm hkeep
      have ⟨hfs', hN7', hsc', hq', hq'', hgq', hgq'', hb'⟩ := hyd8 hfs hN7 hsc hq hq' hgq hgq' hb
      have ⟨hb'', hb4'⟩ := hyd2 hb' hb4
      clear hb4 hb' hb hgq' hgq hq' hq hsc hN7 hfs hkeep hm hrb hox hbrx kx hbx hrr hgd hww hNV hNb hF ho hbr hI
      go_wp2
      exact ⟨⟨_, i + 1, _, rfl, frame_mkN _ _ (by kernel_rfl), by omega, hN7'⟩, by simp [intOf]; omega⟩
     ·have Z1 : (0 : Int) < (b4 : Int) := by omega
      have Z2 : 0 < b4 := by omega
      obtain ⟨b6, hb6⟩ : ∃ y, b / 64 = y := ⟨_, rfl⟩
      obtain ⟨c6, hc6⟩ : ∃ y, b' / 64 = y := ⟨_, rfl⟩
      have hkeep : keepB sm i = true := by unfold keepB; rw [hgq, hb4]; simp [Z2]
      have hwid : widI sm i (L.getD i default) = ⟨rc, rs, lo - (b6 : Int), up + (c6 : Int)⟩ := by unfold widI; rw [if_neg (by omega), hgd, hgq, hgq', hb6, hc6]
      have b6b : b6 ≤ 3 := by omega
      have c6b : c6 ≤ 3 := by omega
      have X3 : (b : Int).tdiv 64 = (b6 : Int) := by rw [← hb6]; rfl
      have Y3 : (b : Int) / 64 = (b6 : Int) := by rw [← hb6]; rfl
      have X4 : (b' : Int).tdiv 64 = (c6 : Int) := by rw [← hc6]; rfl
      have Y4 : (b' : Int) / 64 = (c6 : Int) := by rw [← hc6]; rfl
      have X5 : ((i : Int) + 1).tmod (m : Int) = (q' : Int) := by rw [← hq']; rfl
      have Y5 : ((i : Int) + 1) % (m : Int) = (q' : Int) := by rw [← hq']; rfl
      have Z5 : IntKind.i64.wrap ((i : Int) + 1) = (i : Int) + 1 := IntWalk.i64_in _ (by omega)
      have Z6 : IntKind.i64.wrap (b6 : Int) = (b6 : Int) := IntWalk.i64_in _ (by omega)
      have Z7 : IntKind.i64.wrap (c6 : Int) = (c6 : Int) := IntWalk.i64_in _ (by omega)
      have Z8 : IntKind.i64.wrap (lo - (b6 : Int)) = lo - (b6 : Int) := IntWalk.i64_in _ (by omega)
      have Z9 : IntKind.i64.wrap (up + (c6 : Int)) = up + (c6 : Int) := IntWalk.i64_in _ (by omega)
      have B3 : (0 : Int) ≤ (b' : Int) := by omega
      have B4 : (b' : Int) ≤ 255 := by omega
      have I3 : (0 : Int) ≤ (q' : Int) := by omega
      have I4 : (q' : Int) < (m : Int) := by omega
      have hwx := bel_set hww hbx
      have s0x := (Below.cell hwx (p := ⟨gs, os + q, none⟩) hgs).trans s0
      have fx := pfrz kx 2
      have hXz : w.heap.size ≤ wr.heap.size := hww.size
      have hX3 : W3.heap.size ≤ wr.heap.size := hbr.size
      have hgX : gs ≠ wr.heap.size := by omega
      have hob : ∀ r, (Value.slice AV NV cV).ownBlock = some r → r ≠ wr.heap.size := fun r hr => by have := (ho.lt r hr).2; omega
      have ⟨hI', hbr', ho', hF', hNb', hNV', hww', hgd'⟩ := hyd8 hI hbr ho hF hNb hNV hww hgd
      have ⟨hrr', hbx', kx', hbrx', hox', hrb', hm', hkeep'⟩ := hyd8 hrr hbx kx hbrx hox hrb hm hkeep
      have ⟨hwid', hsc', hq', hq'', hgq', hgq'', hb', hb''⟩ := hyd8 hwid hsc hq hq' hgq hgq' hb hb'
      have ⟨hb4', hb6', hc6', s0', s1', hwx', hob', hz'⟩ := hyd8 hb4 hb6 hc6 s0 s1 hwx hob hz
      clear hz hob hwx s1 s0 hc6 hb6 hb4 hb' hb hgq' hgq hq' hq hsc hwid hkeep hm hrb hox hbrx kx hbx hrr hgd hww hNV hNb hF ho hbr hI
      go_wp2_with (fail)
      clear hWx
      go_region
      have kx := kx'.out
      have hbrx := hbrx'.out
      have hox := hox'.out
      obtain ⟨WB, hWB, kB, hoB, hbB, hwB⟩ : ∃ V, (Wx.setCell ⟨wr.heap.size, 2, none⟩ (.int .i64 (lo - (b6 : Int)))).drew = V ∧ V.heap[wr.heap.size]? = some (.cells #[.int .i64 rc, .int .i64 rs, .int .i64 (lo - (b6 : Int)), .int .i64 up] 77) ∧ V.ownsRow W3.heap.size 77 4 (.slice AV NV cV) NV (F.flatMap rdEnc) ∧ Below W3.heap.size W3 V ∧ Below w.heap.size w V :=
       ⟨_, rfl, heap_set kx 2 _, own_other hox hob'.out _, (hbrx.setCell (p := ⟨wr.heap.size, 2, none⟩) hX3 _).drew, (hwx'.out.setCell (p := ⟨wr.heap.size, 2, none⟩) hXz _).drew⟩
      rw [hWB]
      clear hWB y0 y1 y2 y3 fx s0x s0r X2 Y2 X3 Y3 Z6 Z8 X1 Y1
      obtain ⟨y0, y1, y2, y3⟩ := pc4 kB
      have fx := pfrz kB 3
      have s1x := (Below.cell hwB (p := ⟨gs, os + q', none⟩) hgs).trans s1'.out
      have ⟨kx', hbrx', hox', kB', hoB', hbB', hwB'⟩ := hyd7 kx hbrx hox kB hoB hbB hwB
      clear hwB hbB hoB kB hox hbrx kx
      go_wp2_with (fail)
      go_region
      have kB := kB'.out
      obtain ⟨WC, hWC, kC, hov, hbv⟩ : ∃ V, (WB.setCell ⟨wr.heap.size, 3, none⟩ (.int .i64 (up + (c6 : Int)))).drew = V ∧ V.heap[wr.heap.size]? = some (.cells #[.int .i64 rc, .int .i64 rs, .int .i64 (lo - (b6 : Int)), .int .i64 (up + (c6 : Int))] 77) ∧ V.ownsRow W3.heap.size 77 4 (.slice AV NV cV) NV (F.flatMap rdEnc) ∧ Below W3.heap.size W3 V :=
       ⟨_, rfl, heap_set kB 3 _, own_other hoB'.out hob'.out _, (hbB'.out.setCell (p := ⟨wr.heap.size, 3, none⟩) hX3 _).drew⟩
      rw [hWC]
      clear hWC y0 y1 y2 y3 fx s1x X4 Y4 X5 Y5 Z5 Z7 Z9
      obtain ⟨y0, y1, y2, y3⟩ := pc4 kC
      have hkeep := hkeep'.out
      have hwid := hwid'.out
      have ⟨kB', kC'⟩ := hyd2 kB kC
      clear kC kB
      obtain ⟨Wa, hWa, hba, ka⟩ := newb WC (.cells #[.int .i64 rc, .int .i64 rs, .int .i64 (lo - (b6 : Int)), .int .i64 (up + (c6 : Int))] 77)
      obtain ⟨na0, na1, na2, na3⟩ := pc4 ka
      have hnew : ∀ (k : Nat) (u : Value), (rdEnc ⟨rc, rs, lo - (b6 : Int), up + (c6 : Int)⟩)[k]? = some u → Wa.cell? ⟨WC.heap.size, k, none⟩ = some u := fun k u hu => by
       have hi4 : k < 4 := (List.getElem?_eq_some_iff.1 hu).1
       match k, hi4 with
       | 0, _ => rw [na0]; simpa [rdEnc] using hu
       | 1, _ => rw [na1]; simpa [rdEnc] using hu
       | 2, _ => rw [na2]; simpa [rdEnc] using hu
       | 3, _ => rw [na3]; simpa [rdEnc] using hu
      have hoa := own_below hov hba
      have hbva := bel_set hbv hba
      have hza := hbva.size
      have hfs : fewTo sm L (i + 1) = F ++ [⟨rc, rs, lo - (b6 : Int), up + (c6 : Int)⟩] := by rw [fewTo_succ, hF'.out, hkeep, if_pos rfl, hwid]
      clear na0 na1 na2 na3
      have ⟨hbv', hov', hfs', hba', ka', hnew', hoa', hbva'⟩ := hyd8 hbv hov hfs hba ka hnew hoa hbva
      have ⟨hkeep', hwid'⟩ := hyd2 hkeep hwid
      clear hwid hkeep hbva hoa hnew ka hba hfs hov hbv
      go_wp2_with (first | (at_builtin; go_must (refine wpList_appT (enc := rdEnc) (k := 4) (bytes := 32) _ rfl _ _ 23 (fun _ => rfl) (fun x u hu => by simp [rdEnc] at hu; rcases hu with rfl | rfl | rfl | rfl <;> rfl) (by decide) rfl (by decide) rfl W3.heap.size 77 Tryz.underlying23 rdgInfo (.slice AV NV cV) F rfl (by rw [hNV'.out]; exact hoa'.out) WC.heap.size ⟨rc, rs, lo - (b6 : Int), up + (c6 : Int)⟩ rfl hnew'.out (by rw [hNV'.out]; have := hNb'.out; omega) hza ?_)))
      intro v7 w7 q1 q2 q3
      have q1b : w7.ownsRow W3.heap.size 77 4 v7 (NV + 1) ((fewTo sm L (i + 1)).flatMap rdEnc) := by rw [hNV'.out] at q1; rw [hfs'.out, List.flatMap_append, List.flatMap_singleton]; exact q1
      have hl7 : (fewTo sm L (i + 1)).length = NV + 1 := by rw [hfs'.out, List.length_append, hNV'.out]; rfl
      obtain ⟨A7, c7, rfl⟩ := slice_formR q1b
      have hN7 : PiI W3 0 (fewTo sm L (i + 1)) (.slice A7 (NV + 1) c7) w7 := ⟨hbva'.out.trans (own_bel hoa'.out q2 hza), by rw [hl7]; exact q1b⟩
      have ⟨q1', q1b', q2', q3', hl7', hN7'⟩ := hyd6 q1 q1b q2 q3 hl7 hN7
      clear hN7 hl7 q3 q2 q1b q1
      go_wp2
      exact ⟨⟨_, i + 1, _, rfl, frame_mkN _ _ (by kernel_rfl), by omega, hN7'⟩, by simp [intOf]; omega⟩
   ·obtain rfl : i = n := by omega
    have hww := bel_set hbw3'.out hbr
    have kp := blk hbr k13'.out
    have kq := blk hbr k23'.out
    obtain ⟨d0, d1, d2, d3, d4, d5⟩ := pc6 kp
    have hFin : picP p other cuts noise sm = ⟨if twoB p other then [⟨other, p.rub⟩, ⟨p.ros, p.rub⟩] else [⟨p.ros, p.rub⟩], min p.throw 15, min p.throw 15 + 1, p.adv, min (p.adv + 2) 1000, F⟩ := by unfold picP; rw [hL'.out, hn'.out, hF]
    have hB : pictB p cuts noise sm = decide (0 < NV) := by unfold pictB; rw [hE'.out, hL'.out, hn'.out, hF, hNV]; simp [ha0]
    have hth := hp'.out.throw
    have had := hp'.out.adv
    obtain ⟨T, hT⟩ : ∃ T, min p.throw 15 = T := ⟨_, rfl⟩
    obtain ⟨D, hD⟩ : ∃ T, min (p.adv + 2) 1000 = T := ⟨_, rfl⟩
    rw [hT, hD] at hFin
    have z1 : IntKind.i64.wrap (T + 1) = T + 1 := IntWalk.i64_in _ (by omega)
    have z2 : IntKind.i64.wrap (p.adv + 2) = p.adv + 2 := IntWalk.i64_in _ (by omega)
    obtain ⟨rl, hrl⟩ : ∃ n, p.ros.length = n := ⟨_, rfl⟩
    obtain ⟨ol, hol⟩ : ∃ n, other.length = n := ⟨_, rfl⟩
    have hv0 := h0'.out.below hww
    have hv1 := h1'.out.below hww
    have hvo := ho'.out.below hww
    rw [hrl] at d0
    obtain ⟨Wh, hWh, hbh, khH⟩ := newb wr (.cells #[.slice A0 rl c0, .slice A1 p.rub.length c1] 58)
    have hbrh := bel_set hbr hbh
    have hwH := bel_set hww hbh
    have kpH := blk hbh kp
    have kqH := blk hbh kq
    have hoH := own_below ho hbh
    have hW13 : W1.heap.size < W3.heap.size := gsl k23'.out
    have hX3 : W3.heap.size ≤ wr.heap.size := hbr.size
    have hXne : wr.heap.size ≠ W1.heap.size := by omega
    obtain ⟨B9, hB9⟩ : ∃ b, decide (0 < NV) = b := ⟨_, rfl⟩
    have hB9i : decide ((0 : Int) < (NV : Int)) = B9 := by rw [← hB9]; exact decide_eq_decide.2 (by omega)
    have hB9n := hB9
    have hB9' := hyd1 hB9
    clear hB9
    have hXo : ∀ W, Below w.heap.size w W → Ints W (.slice AX ol cX) other := fun W hb => by rw [← hol]; exact ho'.out.below hb
    have hch : ∀ (W : World) (b : Bool), Below w.heap.size w W → rosOk other = b → Calls Tryz.prog 48 #[.slice AX ol cX] W fun e w' => e = .returned (.int .i64 (if b then 0 else 30)) ∧ W = w' := fun W b hb h => pf_ros_Check _ other W (by rw [← hol]; exact ho'.out.below hb) b h
    have ⟨hI', hbr', ho', hF', hNV', hww', kp', kq'⟩ := hyd8 hI hbr ho hF hNV hww kp kq
    have ⟨hFin', hB', hrl', hol', hv0', hv1', hvo', hbh'⟩ := hyd8 hFin hB hrl hol hv0 hv1 hvo hbh
    have ⟨khH', hbrh', hwH', kpH', kqH', hoH', hch', hXo'⟩ := hyd8 khH hbrh hwH kpH kqH hoH hch hXo
    clear hXo hch hoH kqH kpH hwH hbrh khH hbh hvo hv1 hv0 hol hrl hB hFin kq kp hww hNV hF ho hbr hI
    rw [hol'.out]
    go_upto_region 16 with (fail)
    clear hWh d0 d1 d2 d3 d4 d5
    obtain ⟨d0, d1, d2, d3, d4, d5⟩ := pc6 kpH'.out
    rw [hrl'.out] at d0
    by_cases hlen : ol = rl
    ·have hlen2 := hlen.symm
     subst hlen2
     have hlb : ((rl : Int) == (rl : Int)) = true := by simp
     obtain ⟨RB, hRB⟩ : ∃ b, rosOk other = b := ⟨_, rfl⟩
     have kc := hch'.out Wh RB hwH'.out hRB
     cases RB with
     | false =>
      have hTwo : twoB p other = false := by unfold twoB; rw [hRB]; simp
      have hFc : picP p other cuts noise sm = ⟨[⟨p.ros, p.rub⟩], T, T + 1, p.adv, D, F⟩ := by rw [hFin'.out, hTwo]; rfl
      have ⟨hRB', kc', hTwo', hFc'⟩ := hyd4 hRB kc hTwo hFc
      clear hFc hTwo kc hRB
      obtain ⟨W9, hW9, hb9, k9, kh9, ho9⟩ : ∃ V, ((((((Wh.setCell ⟨W1.heap.size, 0, none⟩ (.slice (some ⟨wr.heap.size, 0, none⟩) 1 1)).setCell ⟨W1.heap.size, 1, none⟩ (.int .i64 T)).setCell ⟨W1.heap.size, 2, none⟩ (.int .i64 (T + 1))).setCell ⟨W1.heap.size, 3, none⟩ (.int .i64 p.adv)).setCell ⟨W1.heap.size, 4, none⟩ (.int .i64 D)).setCell ⟨W1.heap.size, 5, none⟩ (.slice AV NV cV)) = V ∧ Below w.heap.size w V ∧ V.heap[W1.heap.size]? = some (.cells #[.slice (some ⟨wr.heap.size, 0, none⟩) 1 1, .int .i64 T, .int .i64 (T + 1), .int .i64 p.adv, .int .i64 D, .slice AV NV cV] 25) ∧ V.heap[wr.heap.size]? = some (.cells #[.slice A0 rl c0, .slice A1 p.rub.length c1] 58) ∧ RdsL V (.slice AV NV cV) F :=
       ⟨_, rfl, pset6b hwH'.out hwz'.out _ _ _ _ _ _, pset6 kqH'.out _ _ _ _ _ _, (Below.heap_setCell _ ⟨W1.heap.size, 5, none⟩ _ _ hXne).trans ((Below.heap_setCell _ ⟨W1.heap.size, 4, none⟩ _ _ hXne).trans ((Below.heap_setCell _ ⟨W1.heap.size, 3, none⟩ _ _ hXne).trans ((Below.heap_setCell _ ⟨W1.heap.size, 2, none⟩ _ _ hXne).trans ((Below.heap_setCell _ ⟨W1.heap.size, 1, none⟩ _ _ hXne).trans ((Below.heap_setCell _ ⟨W1.heap.size, 0, none⟩ _ _ hXne).trans khH'.out))))),
        SV.of_own (base := W3.heap.size) (e := 77) (enc := rdEnc) (k := 4) (fun _ => rfl) (by rw [hNV'.out]; exact own_apart (own_apart (own_apart (own_apart (own_apart (own_apart hoH'.out hW13 _) hW13 _) hW13 _) hW13 _) hW13 _) hW13 _)⟩
      obtain ⟨x0, x1, x2, x3, x4, x5⟩ := pc6 k9
      have fg0 := pfrz kqH'.out 0
      have fg1 := pfrz kqH'.out 1
      have fg2 := pfrz kqH'.out 2
      have fg3 := pfrz kqH'.out 3
      have fg4 := pfrz kqH'.out 4
      have fg5 := pfrz kqH'.out 5
      obtain ⟨e0, e1, e2, e3, e4, e5⟩ := pc6 kqH'.out
      have hFi : IsPic W9 (.agg #[.slice (some ⟨wr.heap.size, 0, none⟩) 1 1, .int .i64 T, .int .i64 (T + 1), .int .i64 p.adv, .int .i64 D, .slice AV NV cV]) (picP p other cuts noise sm) := by rw [hFc'.out]; exact ⟨_, _, rfl, heads_one (h := ⟨p.ros, p.rub⟩) kh9 (by have := h0'.out.below hb9; rw [hrl'.out] at this; exact this) (h1'.out.below hb9), ho9⟩
      have ⟨hb9', k9', kh9', ho9', hFi'⟩ := hyd5 hb9 k9 kh9 ho9 hFi
      clear hFi ho9 kh9 k9 hb9
      go_wp2_with (first | (go_at_call 48; ((with_reducible refine (kc'.out).mono ?_); rintro e w' ⟨rfl, rfl⟩)))
      exact bodyPost_ret (v := .tuple #[.agg #[.slice (some ⟨wr.heap.size, 0, none⟩) 1 1, .int .i64 T, .int .i64 (T + 1), .int .i64 p.adv, .int .i64 D, .slice AV NV cV], .bool B9]) (by simp [results, Tryz.results25, go_sem, x0, x1, x2, x3, x4, x5]) rfl ⟨_, B9, rfl, hb9'.out, by rw [hB'.out, hB9'.out], ⟨_, _, _, _, _, _, _, _, _, _, rfl⟩, fun _ => hFi'.out⟩
     | true =>
      have hTwo : twoB p other = true := by unfold twoB; rw [hRB, hol'.out, hrl'.out]; simp
      have hFc : picP p other cuts noise sm = ⟨[⟨other, p.rub⟩, ⟨p.ros, p.rub⟩], T, T + 1, p.adv, D, F⟩ := by rw [hFin'.out, hTwo]; rfl
      obtain ⟨y0, y1⟩ := pc2 khH'.out
      have ⟨hRB', kc', hTwo', hFc'⟩ := hyd4 hRB kc hTwo hFc
      clear hFc hTwo kc hRB
      go_wp2_with (first | (go_at_call 48; ((with_reducible refine (kc'.out).mono ?_); rintro e w' ⟨rfl, rfl⟩)))
      go_region
      all_goals
       obtain ⟨WT, hWT, hwT, kpT, kqT, khT, hoT⟩ : ∃ V, (Wh.alloc (.cells #[.slice AX rl cX, .slice A1 p.rub.length c1, .slice A0 rl c0, .slice A1 p.rub.length c1] 58)).drew = V ∧ Below w.heap.size w V ∧ V.heap[w.heap.size]? = some (.cells #[.slice A0 p.ros.length c0, .slice A1 p.rub.length c1, .int .i64 p.start, .int .i64 p.throw, .int .i64 p.adv, .slice A5 p.shifts.length c5] 28) ∧ V.heap[W1.heap.size]? = some (.cells #[.slice none 0 0, .int .i64 0, .int .i64 0, .int .i64 0, .int .i64 0, .slice none 0 0] 25) ∧ V.heap[Wh.heap.size]? = some (.cells #[.slice AX rl cX, .slice A1 p.rub.length c1, .slice A0 rl c0, .slice A1 p.rub.length c1] 58) ∧ V.ownsRow W3.heap.size 77 4 (.slice AV NV cV) NV (F.flatMap rdEnc) := by
        obtain ⟨V, e, b, k⟩ := newb Wh (.cells #[.slice AX rl cX, .slice A1 p.rub.length c1, .slice A0 rl c0, .slice A1 p.rub.length c1] 58)
        have b' : Below Wh.heap.size Wh V.drew := b.drew
        exact ⟨V.drew, by rw [e], bel_set hwH'.out b', blk b' kpH'.out, blk b' kqH'.out, k, own_below hoH'.out b'⟩
       rw [hWT]
       clear hWT d0 d1 d2 d3 d4 d5 y0 y1
       obtain ⟨d0, d1, d2, d3, d4, d5⟩ := pc6 kpT
       have hXn2 : Wh.heap.size ≠ W1.heap.size := by have := gsl kqH'.out; omega
       have ⟨hwT', kpT', kqT', khT', hoT'⟩ := hyd5 hwT kpT kqT khT hoT
       clear hoT khT kqT kpT hwT
       obtain ⟨W9, hW9, hb9, k9, kh9, ho9⟩ : ∃ V, ((((((WT.setCell ⟨W1.heap.size, 0, none⟩ (.slice (some ⟨Wh.heap.size, 0, none⟩) 2 2)).setCell ⟨W1.heap.size, 1, none⟩ (.int .i64 T)).setCell ⟨W1.heap.size, 2, none⟩ (.int .i64 (T + 1))).setCell ⟨W1.heap.size, 3, none⟩ (.int .i64 p.adv)).setCell ⟨W1.heap.size, 4, none⟩ (.int .i64 D)).setCell ⟨W1.heap.size, 5, none⟩ (.slice AV NV cV)) = V ∧ Below w.heap.size w V ∧ V.heap[W1.heap.size]? = some (.cells #[.slice (some ⟨Wh.heap.size, 0, none⟩) 2 2, .int .i64 T, .int .i64 (T + 1), .int .i64 p.adv, .int .i64 D, .slice AV NV cV] 25) ∧ V.heap[Wh.heap.size]? = some (.cells #[.slice AX rl cX, .slice A1 p.rub.length c1, .slice A0 rl c0, .slice A1 p.rub.length c1] 58) ∧ RdsL V (.slice AV NV cV) F :=
        ⟨_, rfl, pset6b hwT'.out hwz'.out _ _ _ _ _ _, pset6 kqT'.out _ _ _ _ _ _, (Below.heap_setCell _ ⟨W1.heap.size, 5, none⟩ _ _ hXn2).trans ((Below.heap_setCell _ ⟨W1.heap.size, 4, none⟩ _ _ hXn2).trans ((Below.heap_setCell _ ⟨W1.heap.size, 3, none⟩ _ _ hXn2).trans ((Below.heap_setCell _ ⟨W1.heap.size, 2, none⟩ _ _ hXn2).trans ((Below.heap_setCell _ ⟨W1.heap.size, 1, none⟩ _ _ hXn2).trans ((Below.heap_setCell _ ⟨W1.heap.size, 0, none⟩ _ _ hXn2).trans khT'.out))))),
         SV.of_own (base := W3.heap.size) (e := 77) (enc := rdEnc) (k := 4) (fun _ => rfl) (by rw [hNV'.out]; exact own_apart (own_apart (own_apart (own_apart (own_apart (own_apart hoT'.out hW13 _) hW13 _) hW13 _) hW13 _) hW13 _) hW13 _)⟩
       obtain ⟨x0, x1, x2, x3, x4, x5⟩ := pc6 k9
       have fg0 := pfrz kqT'.out 0
       have fg1 := pfrz kqT'.out 1
       have fg2 := pfrz kqT'.out 2
       have fg3 := pfrz kqT'.out 3
       have fg4 := pfrz kqT'.out 4
       have fg5 := pfrz kqT'.out 5
       obtain ⟨e0, e1, e2, e3, e4, e5⟩ := pc6 kqT'.out
       have hFi : IsPic W9 (.agg #[.slice (some ⟨Wh.heap.size, 0, none⟩) 2 2, .int .i64 T, .int .i64 (T + 1), .int .i64 p.adv, .int .i64 D, .slice AV NV cV]) (picP p other cuts noise sm) := by rw [hFc'.out]; exact ⟨_, _, rfl, heads_two (h := ⟨other, p.rub⟩) (h' := ⟨p.ros, p.rub⟩) kh9 (hXo'.out W9 hb9) (h1'.out.below hb9) (by have := h0'.out.below hb9; rw [hrl'.out] at this; exact this) (h1'.out.below hb9), ho9⟩
       have ⟨hb9', k9', kh9', ho9', hFi'⟩ := hyd5 hb9 k9 kh9 ho9 hFi
       clear hFi ho9 kh9 k9 hb9
       go_wp2
       exact bodyPost_ret (v := .tuple #[.agg #[.slice (some ⟨Wh.heap.size, 0, none⟩) 2 2, .int .i64 T, .int .i64 (T + 1), .int .i64 p.adv, .int .i64 D, .slice AV NV cV], .bool B9]) (by simp [results, Tryz.results25, go_sem, x0, x1, x2, x3, x4, x5]) rfl ⟨_, B9, rfl, hb9'.out, by rw [hB'.out, hB9'.out], ⟨_, _, _, _, _, _, _, _, _, _, rfl⟩, fun _ => hFi'.out⟩
    ·have hlb : ((ol : Int) == (rl : Int)) = false := by simp; omega
     have hld : decide (ol = rl) = false := decide_eq_false hlen
     have hTwo : twoB p other = false := by unfold twoB; rw [hol'.out, hrl'.out, hld]; rfl
     have hFc : picP p other cuts noise sm = ⟨[⟨p.ros, p.rub⟩], T, T + 1, p.adv, D, F⟩ := by rw [hFin'.out, hTwo]; rfl
     have ⟨hTwo', hFc'⟩ := hyd2 hTwo hFc
     clear hFc hTwo
     obtain ⟨W9, hW9, hb9, k9, kh9, ho9⟩ : ∃ V, ((((((Wh.setCell ⟨W1.heap.size, 0, none⟩ (.slice (some ⟨wr.heap.size, 0, none⟩) 1 1)).setCell ⟨W1.heap.size, 1, none⟩ (.int .i64 T)).setCell ⟨W1.heap.size, 2, none⟩ (.int .i64 (T + 1))).setCell ⟨W1.heap.size, 3, none⟩ (.int .i64 p.adv)).setCell ⟨W1.heap.size, 4, none⟩ (.int .i64 D)).setCell ⟨W1.heap.size, 5, none⟩ (.slice AV NV cV)) = V ∧ Below w.heap.size w V ∧ V.heap[W1.heap.size]? = some (.cells #[.slice (some ⟨wr.heap.size, 0, none⟩) 1 1, .int .i64 T, .int .i64 (T + 1), .int .i64 p.adv, .int .i64 D, .slice AV NV cV] 25) ∧ V.heap[wr.heap.size]? = some (.cells #[.slice A0 rl c0, .slice A1 p.rub.length c1] 58) ∧ RdsL V (.slice AV NV cV) F :=
      ⟨_, rfl, pset6b hwH'.out hwz'.out _ _ _ _ _ _, pset6 kqH'.out _ _ _ _ _ _, (Below.heap_setCell _ ⟨W1.heap.size, 5, none⟩ _ _ hXne).trans ((Below.heap_setCell _ ⟨W1.heap.size, 4, none⟩ _ _ hXne).trans ((Below.heap_setCell _ ⟨W1.heap.size, 3, none⟩ _ _ hXne).trans ((Below.heap_setCell _ ⟨W1.heap.size, 2, none⟩ _ _ hXne).trans ((Below.heap_setCell _ ⟨W1.heap.size, 1, none⟩ _ _ hXne).trans ((Below.heap_setCell _ ⟨W1.heap.size, 0, none⟩ _ _ hXne).trans khH'.out))))),
       SV.of_own (base := W3.heap.size) (e := 77) (enc := rdEnc) (k := 4) (fun _ => rfl) (by rw [hNV'.out]; exact own_apart (own_apart (own_apart (own_apart (own_apart (own_apart hoH'.out hW13 _) hW13 _) hW13 _) hW13 _) hW13 _) hW13 _)⟩
     obtain ⟨x0, x1, x2, x3, x4, x5⟩ := pc6 k9
     have fg0 := pfrz kqH'.out 0
     have fg1 := pfrz kqH'.out 1
     have fg2 := pfrz kqH'.out 2
     have fg3 := pfrz kqH'.out 3
     have fg4 := pfrz kqH'.out 4
     have fg5 := pfrz kqH'.out 5
     obtain ⟨e0, e1, e2, e3, e4, e5⟩ := pc6 kqH'.out
     have hFi : IsPic W9 (.agg #[.slice (some ⟨wr.heap.size, 0, none⟩) 1 1, .int .i64 T, .int .i64 (T + 1), .int .i64 p.adv, .int .i64 D, .slice AV NV cV]) (picP p other cuts noise sm) := by rw [hFc'.out]; exact ⟨_, _, rfl, heads_one (h := ⟨p.ros, p.rub⟩) kh9 (by have := h0'.out.below hb9; rw [hrl'.out] at this; exact this) (h1'.out.below hb9), ho9⟩
     have ⟨hb9', k9', kh9', ho9', hFi'⟩ := hyd5 hb9 k9 kh9 ho9 hFi
     clear hFi ho9 kh9 k9 hb9
     go_wp2
     exact bodyPost_ret (v := .tuple #[.agg #[.slice (some ⟨wr.heap.size, 0, none⟩) 1 1, .int .i64 T, .int .i64 (T + 1), .int .i64 p.adv, .int .i64 D, .slice AV NV cV], .bool B9]) (by simp [results, Tryz.results25, go_sem, x0, x1, x2, x3, x4, x5]) rfl ⟨_, B9, rfl, hb9'.out, by rw [hB'.out, hB9'.out], ⟨_, _, _, _, _, _, _, _, _, _, rfl⟩, fun _ => hFi'.out⟩
 ·have hf : pictB p cuts noise sm = false := by
   unfold pictB
   rw [hE'.out]
   by_cases h1 : E = 0
   ·have h2 : ¬ 0 ≤ p.adv := fun h => hbad ⟨h1, h⟩
    simp [h2]
   ·simp [h1]
  have fg0 := pfrz k23 0
  have fg1 := pfrz k23 1
  have fg2 := pfrz k23 2
  have fg3 := pfrz k23 3
  have fg4 := pfrz k23 4
  have fg5 := pfrz k23 5
  obtain ⟨W9, hW9, hb9, k9⟩ : ∃ V, ((((((W3.setCell ⟨W1.heap.size, 0, none⟩ (.slice none 0 0)).setCell ⟨W1.heap.size, 1, none⟩ (.int .i64 0)).setCell ⟨W1.heap.size, 2, none⟩ (.int .i64 0)).setCell ⟨W1.heap.size, 3, none⟩ (.int .i64 0)).setCell ⟨W1.heap.size, 4, none⟩ (.int .i64 0)).setCell ⟨W1.heap.size, 5, none⟩ (.slice none 0 0)) = V ∧ Below w.heap.size w V ∧ V.heap[W1.heap.size]? = some (.cells #[.slice none 0 0, .int .i64 0, .int .i64 0, .int .i64 0, .int .i64 0, .slice none 0 0] 25) :=
   ⟨_, rfl, pset6b hbw3 hwz'.out _ _ _ _ _ _, pset6 k23 _ _ _ _ _ _⟩
  obtain ⟨x0, x1, x2, x3, x4, x5⟩ := pc6 k9
  by_cases h1 : E = 0
  ·subst h1
   have h2 : p.adv < 0 := by omega
   clear hbad
   have ⟨hb3', hbw3', k13', k23', hf', hl', hb9', k9'⟩ := hyd8 hb3 hbw3 k13 k23 hf hl hb9 k9
   clear k9 hb9 hl hf k23 k13 hbw3 hb3
   go_wp2
   exact bodyPost_ret (v := .tuple #[.agg #[.slice none 0 0, .int .i64 0, .int .i64 0, .int .i64 0, .int .i64 0, .slice none 0 0], .bool false]) (by simp [results, Tryz.results25, go_sem, x0, x1, x2, x3, x4, x5]) rfl ⟨_, false, rfl, hb9'.out, hf'.out.symm, ⟨_, _, _, _, _, _, _, _, _, _, rfl⟩, fun h => by cases h⟩
  ·have h1b : (E != 0) = true := by simpa using h1
   clear hbad
   have ⟨hb3', hbw3', k13', k23', hf', hl', hb9', k9'⟩ := hyd8 hb3 hbw3 k13 k23 hf hl hb9 k9
   clear k9 hb9 hl hf k23 k13 hbw3 hb3
   go_wp2
   exact bodyPost_ret (v := .tuple #[.agg #[.slice none 0 0, .int .i64 0, .int .i64 0, .int .i64 0, .int .i64 0, .slice none 0 0], .bool false]) (by simp [results, Tryz.results25, go_sem, x0, x1, x2, x3, x4, x5]) rfl ⟨_, false, rfl, hb9'.out, hf'.out.symm, ⟨_, _, _, _, _, _, _, _, _, _, rfl⟩, fun h => by cases h⟩
end Go.Proofs.YtjdgkmcmgagkgaaGreat
