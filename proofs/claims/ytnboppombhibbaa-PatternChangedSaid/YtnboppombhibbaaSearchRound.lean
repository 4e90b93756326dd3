/- bench.search: a round over the four kinds of moves. -/
import Derived.Test.YtnboppombhibbaaSearchBody
namespace Go.Proofs.Ytnboppombhibbaa
open Go.RowKit Go.Shelf Go.Sort Go.Lib
set_option linter.unusedVariables false
set_option linter.unusedSimpArgs false
attribute [local go_sem] Oper.semAt_some
attribute [local go_sem ↓] Go.wp_at_zero Go.wp_at_succ
def barF (H1 H2 st ov mi ba : Bool) : Bool := ba && H2 || mi && H1 || mi && !ov || !mi && !st
theorem barB_eq (p q : Prog) (how : Nat) (mi ba : Bool) : barB p q how mi ba = barF (how % 2 == 0) (how / 2 % 2 == 0) (offB p q false) (offB p q true) mi ba := rfl
def kindCells (k : Nat) : Array Value := #[.int .i64 k, .int .i64 0, .bool false, .bool false, .int .i64 k, .int .i64 0, .bool false, .bool true, .int .i64 k, .int .i64 0, .bool true, .bool false, .int .i64 k, .int .i64 0, .bool true, .bool true]
def KSt (p q : Prog) (how g : Nat) (cb : Array Value) (st ov : Bool) (n k B4 B5 B9 B11 B13 KB : Nat) (W1 : World) (ds0 : List Deferred) (i : Nat) (a : Act) (wr : World) : Prop :=
  ∃ (t : Array Value) (ds' : List Deferred) (v : Value) (iz : Int), a = { tmps := t, defers := ds' ++ ds0 } ∧ iz = i ∧ (∃ u : Nat → Value, t = #[(u 0), (u 1), .int .u8 how, .func (.func g) #[] cb, .pointer (some ⟨B4, 0, none⟩), .pointer (some ⟨B5, 0, none⟩), (u 6), (u 7), .int .i64 (n : Nat), .pointer (some ⟨B9, 0, none⟩), .bool st, .pointer (some ⟨B11, 0, none⟩), .bool ov, .pointer (some ⟨B13, 0, none⟩), v, (u 15), (u 16), (u 17), (u 18), (u 19), (u 20), (u 21), (u 22), (u 23), (u 24), (u 25), (u 26), (u 27), (u 28), (u 29), (u 30), (u 31), (u 32), (u 33), (u 34), (u 35), (u 36), (u 37), (u 38), (u 39), (u 40), (u 41), (u 42), (u 43), (u 44), (u 45), (u 46), (u 47), (u 48), (u 49), (u 50), (u 51), (u 52), (u 53), (u 54), (u 55), (u 56), (u 57), (u 58), (u 59), (u 60), (u 61), (u 62), (u 63), .int .i64 (n : Nat), .int .i64 (k : Nat), (u 66), (u 67), (u 68), (u 69), (u 70), (u 71), (u 72), (u 73), (u 74), (u 75), .slice (some ⟨KB, 0, none⟩) 4 4, .int .i64 4, .int .i64 iz, (u 79), (u 80), (u 81), (u 82), (u 83), (u 84), (u 85), (u 86), (u 87), (u 88), (u 89), (u 90), (u 91), (u 92), (u 93), (u 94), (u 95), (u 96), (u 97), (u 98), (u 99), (u 100), (u 101), (u 102), (u 103), (u 104), (u 105), (u 106), (u 107), (u 108), (u 109), (u 110), (u 111), (u 112), (u 113), (u 114), (u 115), (u 116), (u 117), (u 118), (u 119), (u 120), (u 121), (u 122), (u 123), (u 124), (u 125), (u 126), (u 127), (u 128), (u 129), (u 130), (u 131), (u 132), (u 133), (u 134), (u 135), (u 136), (u 137), (u 138), (u 139), (u 140), (u 141), (u 142), (u 143), (u 144), (u 145), (u 146), (u 147), (u 148), (u 149), (u 150), (u 151), (u 152), (u 153), (u 154), (u 155), (u 156), (u 157), (u 158), (u 159), (u 160), (u 161), (u 162), (u 163), (u 164), (u 165), (u 166), (u 167), (u 168), (u 169), (u 170), (u 171), (u 172)]) ∧ Below W1.heap.size W1 wr ∧ Marks W1.heap.size wr ds' ∧
    wr.ownsRow W1.heap.size 68 4 v (kindsMv p q how n k i).length (mvCells (kindsMv p q how n k i))
theorem kinds_none {p q : Prog} {how n k i : Nat} (h : barB p q how (kindAt i).1 (kindAt i).2 = true) : kindsMv p q how n k (i + 1) = kindsMv p q how n k i := by
  rw [kindsMv_succ]; unfold oneMv; rw [if_pos h]; simp
theorem kinds_bad {p q : Prog} {how n k i : Nat} (h : barB p q how (kindAt i).1 (kindAt i).2 = false) (h2 : fitsB p q n k (kindAt i).1 (kindAt i).2 = false) : kindsMv p q how n k (i + 1) = kindsMv p q how n k i := by
  rw [kindsMv_succ]; unfold oneMv; rw [if_neg (by simp [h]), if_neg (by simp [h2])]; simp
theorem kinds_good {p q : Prog} {how n k i : Nat} (h : barB p q how (kindAt i).1 (kindAt i).2 = false) (h2 : fitsB p q n k (kindAt i).1 (kindAt i).2 = true) : kindsMv p q how n k (i + 1) = kindsMv p q how n k i ++ [mvAt p q k (kindAt i).1 (kindAt i).2] := by
  rw [kindsMv_succ]; unfold oneMv; rw [if_neg (by simp [h]), if_pos h2]; rfl
theorem Marks.next {B : Nat} {w w' : World} {ds : List Deferred} (h : Marks B w ds) (hb : Below w.heap.size w w') : Marks B w' ds :=
  h.keep fun D _ hD => (hb.block D (Array.getElem?_eq_some_iff.1 hD).1).trans hD
theorem Marks.lt {B : Nat} {w : World} : ∀ {ds : List Deferred}, Marks B w ds → ∀ d ∈ ds, ∃ D, d = { target := .collected D, args := #[] } ∧ D < w.heap.size
  | [], _, _, h => by cases h
  | d :: ds, ⟨⟨D, hd, hB, hD, hne⟩, hr⟩, d', h => by
    rcases List.mem_cons.1 h with rfl | h
    · exact ⟨D, hd, (Array.getElem?_eq_some_iff.1 hD).1⟩
    · exact Marks.lt hr d' h
theorem Marks.cons {B X : Nat} {w w' : World} {ds : List Deferred} (h : Marks B w' ds) (hlt : ∀ d ∈ ds, ∃ D, d = { target := .collected D, args := #[] } ∧ D < X) {D : Nat} (hD : X ≤ D) (hB : B ≤ D) (hh : w'.heap[D]? = some (.deferred (some []))) :
    Marks B w' ({ target := .collected D, args := #[] } :: ds) :=
  ⟨⟨D, rfl, hB, hh, fun d' hd' e => by
    obtain ⟨D', h1, h2⟩ := hlt d' hd'
    rw [h1] at e
    injection e with e1
    injection e1 with e1
    omega⟩, h⟩
theorem marks_app {B X : Nat} {wr W' W3 : World} {ds' : List Deferred} {v : Value} {e size n : Nat} {xs : List Value} {o : Obj} (hm : Marks B wr ds') (hX : wr.heap.size = X) (hb : Below X wr W') (hrow : W'.ownsRow B e size v n xs) {D : Nat} (hD : X ≤ D) (hBX : B ≤ X)
    (hDK : W'.heap[D]? = some (.deferred (some []))) (hg : (W'.alloc o).grownBy W3 v.ownBlock) : Marks B W3 ({ target := .collected D, args := #[] } :: ds') := by
  have key : ∀ D', W'.heap[D']? = some (Obj.deferred (some [])) → W3.heap[D']? = some (Obj.deferred (some [])) := fun D' h => by
    have hlt := (Array.getElem?_eq_some_iff.1 h).1
    exact (hg.block D' (by simp; omega) (own_ne hrow h)).trans ((Below.heap_alloc _ _ _ hlt).trans h)
  refine Marks.cons (X := X) (w := wr) (hm.keep fun D' _ h => key D' ((hb.block D' (by have := (Array.getElem?_eq_some_iff.1 h).1; omega)).trans h)) (fun d hd => ?_) hD (by omega) (key D hDK)
  obtain ⟨D', h1, h2⟩ := hm.lt d hd
  exact ⟨D', h1, by omega⟩
theorem mvCells_snoc (L : List Mv) (x : Mv) : mvCells (L ++ [x]) = mvCells L ++ x.enc := by
  unfold mvCells; rw [List.flatMap_append]; simp
theorem new4 (W : World) (x : Mv) (e : TypeId) : ∀ (j : Nat) (u : Value), x.enc[j]? = some u → (W.alloc (.cells #[.int .i64 x.cuts, .int .i64 x.turn, .bool x.mirror, .bool x.back] e)).cell? ((⟨W.heap.size, 0, none⟩ : Addr).add j) = some u := by
  intro j u hu
  have hj : j < 4 := (List.getElem?_eq_some_iff.1 hu).1
  have hadd : (⟨W.heap.size, 0, none⟩ : Addr).add j = ⟨W.heap.size, j, none⟩ := by unfold Addr.add; split <;> simp_all
  rw [hadd, World.cell?_alloc_at _ _ _ _ rfl]
  match j, hj with
  | 0, _ => simpa [Mv.enc] using hu
  | 1, _ => simpa [Mv.enc] using hu
  | 2, _ => simpa [Mv.enc] using hu
  | 3, _ => simpa [Mv.enc] using hu
theorem enc_one (x : Mv) : ∀ u ∈ x.enc, u.oneCell' = true := by
  intro u hu
  simp [Mv.enc] at hu
  rcases hu with rfl | rfl | rfl | rfl <;> rfl
theorem mvInfo : (Try.prog.info? 68).map (fun i => (i.zero, i.size, i.bytes)) = some (some (.agg #[.int .i64 0, .int .i64 0, .bool false, .bool false]), 4, 24) := by kernel_rfl
set_option maxRecDepth 1000000 in
set_option maxHeartbeats 2000000 in
theorem kind_at0 (p q : Prog) (hp : BenchFacts p) (hq : BenchFacts q) (b c B4 B5 B9 B11 B13 s o k KB how g n : Nat) (cb : Array Value) (st ov H1 H2 : Bool) (W1 wr : World) (ds0 : List Deferred) (a : Act)
    (hn : n ≤ 1152) (hn0 : 0 < n) (hk : k ≤ 1152) (hs : s ≤ 1000000) (ho : o ≤ 1000000) (hs1 : s = offV p q false) (ho1 : o = offV p q true) (hst : st = offB p q false) (hov : ov = offB p q true)
    (r1 r2 : Int) (hr1 : bits .and .u8 (how : Int) 1 = r1) (hr2 : bits .and .u8 (how : Int) 2 = r2) (hH1 : (r1 == 0) = H1) (hH2 : (r2 == 0) = H2) (kH1 : (how % 2 == 0) = H1) (kH2 : (how / 2 % 2 == 0) = H2)
    (hE1 : KEnv p q b c B4 B5 B9 B11 B13 s o k W1) (hKB : W1.heap[KB]? = some (.cells (kindCells k) 68)) (h : KSt p q how g cb st ov n k B4 B5 B9 B11 B13 KB W1 ds0 0 a wr) (Q : Exit → Act → World → Prop)
    (hnext : ∀ a' w', KSt p q how g cb st ov n k B4 B5 B9 B11 B13 KB W1 ds0 1 a' w' → Q .normal a' w') : kBody.wp Try.prog Q a wr := by
  obtain ⟨t, ds', v, iz, rfl, hiz, ⟨u, rfl⟩, hb, hm, hrow⟩ := h
  obtain rfl : iz = 0 := hiz
  conv => arg 2; whnf
  have hEr := hE1.below hb
  have hkb := (hb.block KB (Array.getElem?_eq_some_iff.1 hKB).1).trans hKB
  have c0 : wr.cell? ⟨KB, 0 + 0, none⟩ = some (.int .i64 k) := cell_of_row wr KB _ _ _ _ hkb
  have c1 : wr.cell? ⟨KB, 0 + 1, none⟩ = some (.int .i64 0) := cell_of_row wr KB _ _ _ _ hkb
  have c2 : wr.cell? ⟨KB, 0 + 2, none⟩ = some (.bool false) := cell_of_row wr KB _ _ _ _ hkb
  have c3 : wr.cell? ⟨KB, 0 + 3, none⟩ = some (.bool false) := cell_of_row wr KB _ _ _ _ hkb
  simp only [Nat.reduceAdd] at c0 c1 c2 c3
  have hE1' := Lib.hid hE1
  have hKB' := Lib.hid hKB
  have hb' := Lib.hid hb
  have hm' := Lib.hid hm
  have hrow' := Lib.hid hrow
  have hEr' := Lib.hid hEr
  have hkb' := Lib.hid hkb
  have hs1' := Lib.hid hs1
  have ho1' := Lib.hid ho1
  have hst' := Lib.hid hst
  have hov' := Lib.hid hov
  have hnext' := Lib.hid hnext
  have hr1' := Lib.hid hr1
  have hr2' := Lib.hid hr2
  have hH1' := Lib.hid hH1
  have hH2' := Lib.hid hH2
  clear hH2 hH1 hr2 hr1 hnext hov hst ho1 hs1 hkb hEr hrow hm hb hKB hE1
  go_upto_region 12 with (fail)
  refine wp_alloc4 ?_
  intro W2 hb2 hX2 hz2
  clear c0 c1 c2 c3
  obtain ⟨x0, x1, x2, x3⟩ := move_cells hX2
  have hr1 := hr1'.out
  have hr2 := hr2'.out
  obtain ⟨X, hX⟩ : ∃ X, wr.heap.size = X := ⟨_, rfl⟩
  rw [hX] at hX2 hz2 x0 x1 x2 x3 ⊢
  obtain ⟨BF, hBF⟩ : ∃ BF, barF H1 H2 st ov false false = BF := ⟨_, rfl⟩
  have hbar : barB p q how false false = BF := by rw [barB_eq, kH1, kH2, ← hst'.out, ← hov'.out]; exact hBF
  have hbwW : Below W1.heap.size W1 W2 := hb'.out.trans (hb2.mono hb'.out.size)
  have hm2 := hm'.out.next hb2
  have hrow2 := own_below hrow'.out hb2
  have hbar' := Lib.hid hbar
  have kH1' := Lib.hid kH1
  have kH2' := Lib.hid kH2
  have hX' := Lib.hid hX
  have hX2' := Lib.hid hX2
  have hb2' := Lib.hid hb2
  have hz2' := Lib.hid hz2
  have hbwW' := Lib.hid hbwW
  have hm2' := Lib.hid hm2
  have hrow2' := Lib.hid hrow2
  clear hrow2 hm2 hbwW hz2 hb2 hX2 hX kH2 kH1 hbar
  cases BF with
  | true =>
    have hsame := kinds_none (n := n) (k := k) (i := 0) hbar'.out
    have hlast : ∀ (iz' : Int) t, iz' = 1 → (∃ u : Nat → Value, t = #[(u 0), (u 1), .int .u8 how, .func (.func g) #[] cb, .pointer (some ⟨B4, 0, none⟩), .pointer (some ⟨B5, 0, none⟩), (u 6), (u 7), .int .i64 (n : Nat), .pointer (some ⟨B9, 0, none⟩), .bool st, .pointer (some ⟨B11, 0, none⟩), .bool ov, .pointer (some ⟨B13, 0, none⟩), v, (u 15), (u 16), (u 17), (u 18), (u 19), (u 20), (u 21), (u 22), (u 23), (u 24), (u 25), (u 26), (u 27), (u 28), (u 29), (u 30), (u 31), (u 32), (u 33), (u 34), (u 35), (u 36), (u 37), (u 38), (u 39), (u 40), (u 41), (u 42), (u 43), (u 44), (u 45), (u 46), (u 47), (u 48), (u 49), (u 50), (u 51), (u 52), (u 53), (u 54), (u 55), (u 56), (u 57), (u 58), (u 59), (u 60), (u 61), (u 62), (u 63), .int .i64 (n : Nat), .int .i64 (k : Nat), (u 66), (u 67), (u 68), (u 69), (u 70), (u 71), (u 72), (u 73), (u 74), (u 75), .slice (some ⟨KB, 0, none⟩) 4 4, .int .i64 4, .int .i64 iz', (u 79), (u 80), (u 81), (u 82), (u 83), (u 84), (u 85), (u 86), (u 87), (u 88), (u 89), (u 90), (u 91), (u 92), (u 93), (u 94), (u 95), (u 96), (u 97), (u 98), (u 99), (u 100), (u 101), (u 102), (u 103), (u 104), (u 105), (u 106), (u 107), (u 108), (u 109), (u 110), (u 111), (u 112), (u 113), (u 114), (u 115), (u 116), (u 117), (u 118), (u 119), (u 120), (u 121), (u 122), (u 123), (u 124), (u 125), (u 126), (u 127), (u 128), (u 129), (u 130), (u 131), (u 132), (u 133), (u 134), (u 135), (u 136), (u 137), (u 138), (u 139), (u 140), (u 141), (u 142), (u 143), (u 144), (u 145), (u 146), (u 147), (u 148), (u 149), (u 150), (u 151), (u 152), (u 153), (u 154), (u 155), (u 156), (u 157), (u 158), (u 159), (u 160), (u 161), (u 162), (u 163), (u 164), (u 165), (u 166), (u 167), (u 168), (u 169), (u 170), (u 171), (u 172)]) → KSt p q how g cb st ov n k B4 B5 B9 B11 B13 KB W1 ds0 1 { tmps := t, defers := ds' ++ ds0 } W2 := fun iz' t h1 h2 =>
      ⟨t, ds', v, iz', rfl, h1, h2, hbwW'.out, hm2'.out, by have e : kindsMv p q how n k 1 = kindsMv p q how n k 0 := hsame; rw [e]; exact hrow2'.out⟩
    have hsame' := Lib.hid hsame
    have hlast' := Lib.hid hlast
    clear hlast hsame
    cases st <;> first | (exfalso; simp [barF] at hBF; done) | skip
    all_goals
      have hH1 := hH1'.out
      have hH2 := hH2'.out
      go_wp2
      exact hnext'.out _ _ (hlast'.out _ _ rfl (frame_mk _ _ (by kernel_rfl)))
  | false =>
    cases st <;> first | (exfalso; simp [barF] at hBF; done) | skip
    all_goals
      have hH1 := hH1'.out
      have hH2 := hH2'.out
      go_upto_region 13 with (fail)
      obtain ⟨F, hF⟩ : ∃ F, fitsB p q n k false false = F := ⟨_, rfl⟩
      have hHr := hX'.out
      refine kind_tail p q hp hq b c B4 B5 B9 B11 B13 s o k X KB how g n 0 cb true ov false false v wr W2 (ds' ++ ds0) _ hn hn0 hk hs ho (frame_mk _ _ (by kernel_rfl)) hEr'.out hX'.out hb2'.out hz2'.out hX2'.out (fun i => by rw [hs1'.out, ho1'.out]; rfl) F hF _ ?_ ?_ _ (by assumption)
      · intro hF1 t' D W3 hu hbX hD hDK hbx
        obtain ⟨u', rfl⟩ := hu
        have hgood := kinds_good (n := n) (k := k) (i := 0) hbar'.out (hF.trans hF1)
        have hle := kindsMv_le p q how n k 0
        have hb3 := (hb2'.out.mono (Nat.le_refl _)).trans (by rw [hHr]; exact hbX)
        have hrow3 := own_below hrow'.out hb3
        have hbw3 := hb'.out.trans (hb3.mono hb'.out.size)
        have hbase : W1.heap.size ≤ X := by rw [← hHr]; exact hb'.out.size
        have hb3z := hb3.size
        obtain ⟨mi, hmi, hz0, hz1, hzb⟩ := info_parts mvInfo
        obtain ⟨x0, x1, x2, x3⟩ := move_cells hbx
        have hnew := new4 W3 (mvAt p q k false false) 68
        have hen := enc_one (mvAt p q k false false)
        have hmks := fun (o : Obj) (W4 : World) (hg : (W3.alloc o).grownBy W4 v.ownBlock) => marks_app hm'.out hHr (by rw [← hHr]; exact hb3) hrow3 hD hbase hDK hg
        have hrl := hrow3.lt
        have hmv : (mvAt p q k false false).enc = [.int .i64 k, .int .i64 (turnAt p q k false false 0), .bool false, .bool false] := rfl
        rw [hmv] at hnew hen
        have hcat : mvCells (kindsMv p q how n k 1) = mvCells (kindsMv p q how n k 0) ++ [.int .i64 k, .int .i64 (turnAt p q k false false 0), .bool false, .bool false] := by
          have e : kindsMv p q how n k 1 = _ := hgood
          rw [e, mvCells_snoc]; rfl
        have hlen4 : (kindsMv p q how n k 1).length = (kindsMv p q how n k 0).length + 1 := by
          have e : kindsMv p q how n k 1 = _ := hgood
          rw [e]; simp
        have hgood' := Lib.hid hgood
        have hle' := Lib.hid hle
        have hb3' := Lib.hid hb3
        have hrow3' := Lib.hid hrow3
        have hbw3' := Lib.hid hbw3
        have hbx' := Lib.hid hbx
        have hDK' := Lib.hid hDK
        have hnew' := Lib.hid hnew
        have hen' := Lib.hid hen
        have hmks' := Lib.hid hmks
        have hz0' := Lib.hid hz0
        have hz1' := Lib.hid hz1
        have hzb' := Lib.hid hzb
        have hrl' := Lib.hid hrl
        have hmv' := Lib.hid hmv
        have hcat' := Lib.hid hcat
        have hlen4' := Lib.hid hlen4
        clear hlen4 hcat hmv hrl hzb hz1 hz0 hmks hen hnew hDK hbx hbw3 hrow3 hb3 hle hgood
        go_wp2_with (first | (at_builtin; go_must (refine wpList_append_own _ rfl _ _ 63 rfl W1.heap.size 68 mi _ 4 24 Try.underlying63 hmi hz0'.out hz1'.out hzb'.out rfl (by decide) v _ _ rfl (hrow3'.out.alloc _) ⟨W3.heap.size, 0, none⟩ 1 1 [.int .i64 k, .int .i64 (turnAt p q k false false 0), .bool false, .bool false] rfl rfl ?_ ?_ ?_ ?_ ?_ ?_)))
        · exact hnew'.out
        · exact hen'.out
        · have := hle'.out; unfold maxLen; omega
        · have := hle'.out; omega
        · have := hb3z; simp; omega
        · intro v4 W4 hown4 hg4 _
          have hmk4 := hmks'.out _ W4 hg4
          have hb4 : Below W1.heap.size W1 W4 := (hbw3'.out.alloc (by omega) _).grown hg4 (by simp; omega) (fun k e => (hrl'.out k e).1)
          rw [← hlen4'.out, ← hcat'.out] at hown4
          have hown4' := Lib.hid hown4
          have hmk4' := Lib.hid hmk4
          have hb4' := Lib.hid hb4
          have hg4' := Lib.hid hg4
          clear hg4 hb4 hmk4 hown4
          go_wp2
          exact hnext'.out _ _ ⟨_, _ :: ds', v4, 1, rfl, rfl, frame_mk _ _ (by kernel_rfl), hb4'.out, hmk4'.out, hown4'.out⟩
      · intro hF0 t' D W3 hu hbX hD hDK
        obtain ⟨u', rfl⟩ := hu
        have hsame := kinds_bad (n := n) (k := k) (i := 0) hbar'.out (hF.trans hF0)
        have hb3 := (hb2'.out.mono (Nat.le_refl _)).trans (by rw [hHr]; exact hbX)
        have hrow3 := own_below hrow'.out hb3
        have hbw3 := hb'.out.trans (hb3.mono hb'.out.size)
        have hbase : W1.heap.size ≤ X := by rw [← hHr]; exact hb'.out.size
        have hmk3 : Marks W1.heap.size W3 ({ target := .collected D, args := #[] } :: ds') := Marks.cons (X := X) (w := wr) (hm'.out.next hb3) (fun d hd => by obtain ⟨D', h1, h2⟩ := hm'.out.lt d hd; exact ⟨D', h1, by omega⟩) hD (by omega) hDK
        have he : kindsMv p q how n k 1 = kindsMv p q how n k 0 := hsame
        rw [← he] at hrow3
        have hsame' := Lib.hid hsame
        have hb3' := Lib.hid hb3
        have hrow3' := Lib.hid hrow3
        have hbw3' := Lib.hid hbw3
        have hDK' := Lib.hid hDK
        have hmk3' := Lib.hid hmk3
        have he' := Lib.hid he
        clear he hmk3 hDK hbw3 hrow3 hb3 hsame
        go_wp2
        exact hnext'.out _ _ ⟨_, _ :: ds', v, 1, rfl, rfl, frame_mk _ _ (by kernel_rfl), hbw3'.out, hmk3'.out, hrow3'.out⟩
set_option maxRecDepth 1000000 in
set_option maxHeartbeats 2000000 in
theorem kind_at1 (p q : Prog) (hp : BenchFacts p) (hq : BenchFacts q) (b c B4 B5 B9 B11 B13 s o k KB how g n : Nat) (cb : Array Value) (st ov H1 H2 : Bool) (W1 wr : World) (ds0 : List Deferred) (a : Act)
    (hn : n ≤ 1152) (hn0 : 0 < n) (hk : k ≤ 1152) (hs : s ≤ 1000000) (ho : o ≤ 1000000) (hs1 : s = offV p q false) (ho1 : o = offV p q true) (hst : st = offB p q false) (hov : ov = offB p q true)
    (r1 r2 : Int) (hr1 : bits .and .u8 (how : Int) 1 = r1) (hr2 : bits .and .u8 (how : Int) 2 = r2) (hH1 : (r1 == 0) = H1) (hH2 : (r2 == 0) = H2) (kH1 : (how % 2 == 0) = H1) (kH2 : (how / 2 % 2 == 0) = H2)
    (hE1 : KEnv p q b c B4 B5 B9 B11 B13 s o k W1) (hKB : W1.heap[KB]? = some (.cells (kindCells k) 68)) (h : KSt p q how g cb st ov n k B4 B5 B9 B11 B13 KB W1 ds0 1 a wr) (Q : Exit → Act → World → Prop)
    (hnext : ∀ a' w', KSt p q how g cb st ov n k B4 B5 B9 B11 B13 KB W1 ds0 2 a' w' → Q .normal a' w') : kBody.wp Try.prog Q a wr := by
  obtain ⟨t, ds', v, iz, rfl, hiz, ⟨u, rfl⟩, hb, hm, hrow⟩ := h
  obtain rfl : iz = 1 := hiz
  conv => arg 2; whnf
  have hEr := hE1.below hb
  have hkb := (hb.block KB (Array.getElem?_eq_some_iff.1 hKB).1).trans hKB
  have c0 : wr.cell? ⟨KB, 4 + 0, none⟩ = some (.int .i64 k) := cell_of_row wr KB _ _ _ _ hkb
  have c1 : wr.cell? ⟨KB, 4 + 1, none⟩ = some (.int .i64 0) := cell_of_row wr KB _ _ _ _ hkb
  have c2 : wr.cell? ⟨KB, 4 + 2, none⟩ = some (.bool false) := cell_of_row wr KB _ _ _ _ hkb
  have c3 : wr.cell? ⟨KB, 4 + 3, none⟩ = some (.bool true) := cell_of_row wr KB _ _ _ _ hkb
  simp only [Nat.reduceAdd] at c0 c1 c2 c3
  have hE1' := Lib.hid hE1
  have hKB' := Lib.hid hKB
  have hb' := Lib.hid hb
  have hm' := Lib.hid hm
  have hrow' := Lib.hid hrow
  have hEr' := Lib.hid hEr
  have hkb' := Lib.hid hkb
  have hs1' := Lib.hid hs1
  have ho1' := Lib.hid ho1
  have hst' := Lib.hid hst
  have hov' := Lib.hid hov
  have hnext' := Lib.hid hnext
  have hr1' := Lib.hid hr1
  have hr2' := Lib.hid hr2
  have hH1' := Lib.hid hH1
  have hH2' := Lib.hid hH2
  clear hH2 hH1 hr2 hr1 hnext hov hst ho1 hs1 hkb hEr hrow hm hb hKB hE1
  go_upto_region 12 with (fail)
  refine wp_alloc4 ?_
  intro W2 hb2 hX2 hz2
  clear c0 c1 c2 c3
  obtain ⟨x0, x1, x2, x3⟩ := move_cells hX2
  have hr1 := hr1'.out
  have hr2 := hr2'.out
  obtain ⟨X, hX⟩ : ∃ X, wr.heap.size = X := ⟨_, rfl⟩
  rw [hX] at hX2 hz2 x0 x1 x2 x3 ⊢
  obtain ⟨BF, hBF⟩ : ∃ BF, barF H1 H2 st ov false true = BF := ⟨_, rfl⟩
  have hbar : barB p q how false true = BF := by rw [barB_eq, kH1, kH2, ← hst'.out, ← hov'.out]; exact hBF
  have hbwW : Below W1.heap.size W1 W2 := hb'.out.trans (hb2.mono hb'.out.size)
  have hm2 := hm'.out.next hb2
  have hrow2 := own_below hrow'.out hb2
  have hbar' := Lib.hid hbar
  have kH1' := Lib.hid kH1
  have kH2' := Lib.hid kH2
  have hX' := Lib.hid hX
  have hX2' := Lib.hid hX2
  have hb2' := Lib.hid hb2
  have hz2' := Lib.hid hz2
  have hbwW' := Lib.hid hbwW
  have hm2' := Lib.hid hm2
  have hrow2' := Lib.hid hrow2
  clear hrow2 hm2 hbwW hz2 hb2 hX2 hX kH2 kH1 hbar
  cases BF with
  | true =>
    have hsame := kinds_none (n := n) (k := k) (i := 1) hbar'.out
    have hlast : ∀ (iz' : Int) t, iz' = 2 → (∃ u : Nat → Value, t = #[(u 0), (u 1), .int .u8 how, .func (.func g) #[] cb, .pointer (some ⟨B4, 0, none⟩), .pointer (some ⟨B5, 0, none⟩), (u 6), (u 7), .int .i64 (n : Nat), .pointer (some ⟨B9, 0, none⟩), .bool st, .pointer (some ⟨B11, 0, none⟩), .bool ov, .pointer (some ⟨B13, 0, none⟩), v, (u 15), (u 16), (u 17), (u 18), (u 19), (u 20), (u 21), (u 22), (u 23), (u 24), (u 25), (u 26), (u 27), (u 28), (u 29), (u 30), (u 31), (u 32), (u 33), (u 34), (u 35), (u 36), (u 37), (u 38), (u 39), (u 40), (u 41), (u 42), (u 43), (u 44), (u 45), (u 46), (u 47), (u 48), (u 49), (u 50), (u 51), (u 52), (u 53), (u 54), (u 55), (u 56), (u 57), (u 58), (u 59), (u 60), (u 61), (u 62), (u 63), .int .i64 (n : Nat), .int .i64 (k : Nat), (u 66), (u 67), (u 68), (u 69), (u 70), (u 71), (u 72), (u 73), (u 74), (u 75), .slice (some ⟨KB, 0, none⟩) 4 4, .int .i64 4, .int .i64 iz', (u 79), (u 80), (u 81), (u 82), (u 83), (u 84), (u 85), (u 86), (u 87), (u 88), (u 89), (u 90), (u 91), (u 92), (u 93), (u 94), (u 95), (u 96), (u 97), (u 98), (u 99), (u 100), (u 101), (u 102), (u 103), (u 104), (u 105), (u 106), (u 107), (u 108), (u 109), (u 110), (u 111), (u 112), (u 113), (u 114), (u 115), (u 116), (u 117), (u 118), (u 119), (u 120), (u 121), (u 122), (u 123), (u 124), (u 125), (u 126), (u 127), (u 128), (u 129), (u 130), (u 131), (u 132), (u 133), (u 134), (u 135), (u 136), (u 137), (u 138), (u 139), (u 140), (u 141), (u 142), (u 143), (u 144), (u 145), (u 146), (u 147), (u 148), (u 149), (u 150), (u 151), (u 152), (u 153), (u 154), (u 155), (u 156), (u 157), (u 158), (u 159), (u 160), (u 161), (u 162), (u 163), (u 164), (u 165), (u 166), (u 167), (u 168), (u 169), (u 170), (u 171), (u 172)]) → KSt p q how g cb st ov n k B4 B5 B9 B11 B13 KB W1 ds0 2 { tmps := t, defers := ds' ++ ds0 } W2 := fun iz' t h1 h2 =>
      ⟨t, ds', v, iz', rfl, h1, h2, hbwW'.out, hm2'.out, by have e : kindsMv p q how n k 2 = kindsMv p q how n k 1 := hsame; rw [e]; exact hrow2'.out⟩
    have hsame' := Lib.hid hsame
    have hlast' := Lib.hid hlast
    clear hlast hsame
    cases H2 <;> cases st <;> first | (exfalso; simp [barF] at hBF; done) | skip
    all_goals
      have hH1 := hH1'.out
      have hH2 := hH2'.out
      go_wp2
      exact hnext'.out _ _ (hlast'.out _ _ rfl (frame_mk _ _ (by kernel_rfl)))
  | false =>
    cases H2 <;> cases st <;> first | (exfalso; simp [barF] at hBF; done) | skip
    all_goals
      have hH1 := hH1'.out
      have hH2 := hH2'.out
      go_upto_region 13 with (fail)
      obtain ⟨F, hF⟩ : ∃ F, fitsB p q n k false true = F := ⟨_, rfl⟩
      have hHr := hX'.out
      refine kind_tail p q hp hq b c B4 B5 B9 B11 B13 s o k X KB how g n 1 cb true ov false true v wr W2 (ds' ++ ds0) _ hn hn0 hk hs ho (frame_mk _ _ (by kernel_rfl)) hEr'.out hX'.out hb2'.out hz2'.out hX2'.out (fun i => by rw [hs1'.out, ho1'.out]; rfl) F hF _ ?_ ?_ _ (by assumption)
      · intro hF1 t' D W3 hu hbX hD hDK hbx
        obtain ⟨u', rfl⟩ := hu
        have hgood := kinds_good (n := n) (k := k) (i := 1) hbar'.out (hF.trans hF1)
        have hle := kindsMv_le p q how n k 1
        have hb3 := (hb2'.out.mono (Nat.le_refl _)).trans (by rw [hHr]; exact hbX)
        have hrow3 := own_below hrow'.out hb3
        have hbw3 := hb'.out.trans (hb3.mono hb'.out.size)
        have hbase : W1.heap.size ≤ X := by rw [← hHr]; exact hb'.out.size
        have hb3z := hb3.size
        obtain ⟨mi, hmi, hz0, hz1, hzb⟩ := info_parts mvInfo
        obtain ⟨x0, x1, x2, x3⟩ := move_cells hbx
        have hnew := new4 W3 (mvAt p q k false true) 68
        have hen := enc_one (mvAt p q k false true)
        have hmks := fun (o : Obj) (W4 : World) (hg : (W3.alloc o).grownBy W4 v.ownBlock) => marks_app hm'.out hHr (by rw [← hHr]; exact hb3) hrow3 hD hbase hDK hg
        have hrl := hrow3.lt
        have hmv : (mvAt p q k false true).enc = [.int .i64 k, .int .i64 (turnAt p q k false true 0), .bool false, .bool true] := rfl
        rw [hmv] at hnew hen
        have hcat : mvCells (kindsMv p q how n k 2) = mvCells (kindsMv p q how n k 1) ++ [.int .i64 k, .int .i64 (turnAt p q k false true 0), .bool false, .bool true] := by
          have e : kindsMv p q how n k 2 = _ := hgood
          rw [e, mvCells_snoc]; rfl
        have hlen4 : (kindsMv p q how n k 2).length = (kindsMv p q how n k 1).length + 1 := by
          have e : kindsMv p q how n k 2 = _ := hgood
          rw [e]; simp
        have hgood' := Lib.hid hgood
        have hle' := Lib.hid hle
        have hb3' := Lib.hid hb3
        have hrow3' := Lib.hid hrow3
        have hbw3' := Lib.hid hbw3
        have hbx' := Lib.hid hbx
        have hDK' := Lib.hid hDK
        have hnew' := Lib.hid hnew
        have hen' := Lib.hid hen
        have hmks' := Lib.hid hmks
        have hz0' := Lib.hid hz0
        have hz1' := Lib.hid hz1
        have hzb' := Lib.hid hzb
        have hrl' := Lib.hid hrl
        have hmv' := Lib.hid hmv
        have hcat' := Lib.hid hcat
        have hlen4' := Lib.hid hlen4
        clear hlen4 hcat hmv hrl hzb hz1 hz0 hmks hen hnew hDK hbx hbw3 hrow3 hb3 hle hgood
        go_wp2_with (first | (at_builtin; go_must (refine wpList_append_own _ rfl _ _ 63 rfl W1.heap.size 68 mi _ 4 24 Try.underlying63 hmi hz0'.out hz1'.out hzb'.out rfl (by decide) v _ _ rfl (hrow3'.out.alloc _) ⟨W3.heap.size, 0, none⟩ 1 1 [.int .i64 k, .int .i64 (turnAt p q k false true 0), .bool false, .bool true] rfl rfl ?_ ?_ ?_ ?_ ?_ ?_)))
        · exact hnew'.out
        · exact hen'.out
        · have := hle'.out; unfold maxLen; omega
        · have := hle'.out; omega
        · have := hb3z; simp; omega
        · intro v4 W4 hown4 hg4 _
          have hmk4 := hmks'.out _ W4 hg4
          have hb4 : Below W1.heap.size W1 W4 := (hbw3'.out.alloc (by omega) _).grown hg4 (by simp; omega) (fun k e => (hrl'.out k e).1)
          rw [← hlen4'.out, ← hcat'.out] at hown4
          have hown4' := Lib.hid hown4
          have hmk4' := Lib.hid hmk4
          have hb4' := Lib.hid hb4
          have hg4' := Lib.hid hg4
          clear hg4 hb4 hmk4 hown4
          go_wp2
          exact hnext'.out _ _ ⟨_, _ :: ds', v4, 2, rfl, rfl, frame_mk _ _ (by kernel_rfl), hb4'.out, hmk4'.out, hown4'.out⟩
      · intro hF0 t' D W3 hu hbX hD hDK
        obtain ⟨u', rfl⟩ := hu
        have hsame := kinds_bad (n := n) (k := k) (i := 1) hbar'.out (hF.trans hF0)
        have hb3 := (hb2'.out.mono (Nat.le_refl _)).trans (by rw [hHr]; exact hbX)
        have hrow3 := own_below hrow'.out hb3
        have hbw3 := hb'.out.trans (hb3.mono hb'.out.size)
        have hbase : W1.heap.size ≤ X := by rw [← hHr]; exact hb'.out.size
        have hmk3 : Marks W1.heap.size W3 ({ target := .collected D, args := #[] } :: ds') := Marks.cons (X := X) (w := wr) (hm'.out.next hb3) (fun d hd => by obtain ⟨D', h1, h2⟩ := hm'.out.lt d hd; exact ⟨D', h1, by omega⟩) hD (by omega) hDK
        have he : kindsMv p q how n k 2 = kindsMv p q how n k 1 := hsame
        rw [← he] at hrow3
        have hsame' := Lib.hid hsame
        have hb3' := Lib.hid hb3
        have hrow3' := Lib.hid hrow3
        have hbw3' := Lib.hid hbw3
        have hDK' := Lib.hid hDK
        have hmk3' := Lib.hid hmk3
        have he' := Lib.hid he
        clear he hmk3 hDK hbw3 hrow3 hb3 hsame
        go_wp2
        exact hnext'.out _ _ ⟨_, _ :: ds', v, 2, rfl, rfl, frame_mk _ _ (by kernel_rfl), hbw3'.out, hmk3'.out, hrow3'.out⟩
set_option maxRecDepth 1000000 in
set_option maxHeartbeats 2000000 in
theorem kind_at2 (p q : Prog) (hp : BenchFacts p) (hq : BenchFacts q) (b c B4 B5 B9 B11 B13 s o k KB how g n : Nat) (cb : Array Value) (st ov H1 H2 : Bool) (W1 wr : World) (ds0 : List Deferred) (a : Act)
    (hn : n ≤ 1152) (hn0 : 0 < n) (hk : k ≤ 1152) (hs : s ≤ 1000000) (ho : o ≤ 1000000) (hs1 : s = offV p q false) (ho1 : o = offV p q true) (hst : st = offB p q false) (hov : ov = offB p q true)
    (r1 r2 : Int) (hr1 : bits .and .u8 (how : Int) 1 = r1) (hr2 : bits .and .u8 (how : Int) 2 = r2) (hH1 : (r1 == 0) = H1) (hH2 : (r2 == 0) = H2) (kH1 : (how % 2 == 0) = H1) (kH2 : (how / 2 % 2 == 0) = H2)
    (hE1 : KEnv p q b c B4 B5 B9 B11 B13 s o k W1) (hKB : W1.heap[KB]? = some (.cells (kindCells k) 68)) (h : KSt p q how g cb st ov n k B4 B5 B9 B11 B13 KB W1 ds0 2 a wr) (Q : Exit → Act → World → Prop)
    (hnext : ∀ a' w', KSt p q how g cb st ov n k B4 B5 B9 B11 B13 KB W1 ds0 3 a' w' → Q .normal a' w') : kBody.wp Try.prog Q a wr := by
  obtain ⟨t, ds', v, iz, rfl, hiz, ⟨u, rfl⟩, hb, hm, hrow⟩ := h
  obtain rfl : iz = 2 := hiz
  conv => arg 2; whnf
  have hEr := hE1.below hb
  have hkb := (hb.block KB (Array.getElem?_eq_some_iff.1 hKB).1).trans hKB
  have c0 : wr.cell? ⟨KB, 8 + 0, none⟩ = some (.int .i64 k) := cell_of_row wr KB _ _ _ _ hkb
  have c1 : wr.cell? ⟨KB, 8 + 1, none⟩ = some (.int .i64 0) := cell_of_row wr KB _ _ _ _ hkb
  have c2 : wr.cell? ⟨KB, 8 + 2, none⟩ = some (.bool true) := cell_of_row wr KB _ _ _ _ hkb
  have c3 : wr.cell? ⟨KB, 8 + 3, none⟩ = some (.bool false) := cell_of_row wr KB _ _ _ _ hkb
  simp only [Nat.reduceAdd] at c0 c1 c2 c3
  have hE1' := Lib.hid hE1
  have hKB' := Lib.hid hKB
  have hb' := Lib.hid hb
  have hm' := Lib.hid hm
  have hrow' := Lib.hid hrow
  have hEr' := Lib.hid hEr
  have hkb' := Lib.hid hkb
  have hs1' := Lib.hid hs1
  have ho1' := Lib.hid ho1
  have hst' := Lib.hid hst
  have hov' := Lib.hid hov
  have hnext' := Lib.hid hnext
  have hr1' := Lib.hid hr1
  have hr2' := Lib.hid hr2
  have hH1' := Lib.hid hH1
  have hH2' := Lib.hid hH2
  clear hH2 hH1 hr2 hr1 hnext hov hst ho1 hs1 hkb hEr hrow hm hb hKB hE1
  go_upto_region 12 with (fail)
  refine wp_alloc4 ?_
  intro W2 hb2 hX2 hz2
  clear c0 c1 c2 c3
  obtain ⟨x0, x1, x2, x3⟩ := move_cells hX2
  have hr1 := hr1'.out
  have hr2 := hr2'.out
  obtain ⟨X, hX⟩ : ∃ X, wr.heap.size = X := ⟨_, rfl⟩
  rw [hX] at hX2 hz2 x0 x1 x2 x3 ⊢
  obtain ⟨BF, hBF⟩ : ∃ BF, barF H1 H2 st ov true false = BF := ⟨_, rfl⟩
  have hbar : barB p q how true false = BF := by rw [barB_eq, kH1, kH2, ← hst'.out, ← hov'.out]; exact hBF
  have hbwW : Below W1.heap.size W1 W2 := hb'.out.trans (hb2.mono hb'.out.size)
  have hm2 := hm'.out.next hb2
  have hrow2 := own_below hrow'.out hb2
  have hbar' := Lib.hid hbar
  have kH1' := Lib.hid kH1
  have kH2' := Lib.hid kH2
  have hX' := Lib.hid hX
  have hX2' := Lib.hid hX2
  have hb2' := Lib.hid hb2
  have hz2' := Lib.hid hz2
  have hbwW' := Lib.hid hbwW
  have hm2' := Lib.hid hm2
  have hrow2' := Lib.hid hrow2
  clear hrow2 hm2 hbwW hz2 hb2 hX2 hX kH2 kH1 hbar
  cases BF with
  | true =>
    have hsame := kinds_none (n := n) (k := k) (i := 2) hbar'.out
    have hlast : ∀ (iz' : Int) t, iz' = 3 → (∃ u : Nat → Value, t = #[(u 0), (u 1), .int .u8 how, .func (.func g) #[] cb, .pointer (some ⟨B4, 0, none⟩), .pointer (some ⟨B5, 0, none⟩), (u 6), (u 7), .int .i64 (n : Nat), .pointer (some ⟨B9, 0, none⟩), .bool st, .pointer (some ⟨B11, 0, none⟩), .bool ov, .pointer (some ⟨B13, 0, none⟩), v, (u 15), (u 16), (u 17), (u 18), (u 19), (u 20), (u 21), (u 22), (u 23), (u 24), (u 25), (u 26), (u 27), (u 28), (u 29), (u 30), (u 31), (u 32), (u 33), (u 34), (u 35), (u 36), (u 37), (u 38), (u 39), (u 40), (u 41), (u 42), (u 43), (u 44), (u 45), (u 46), (u 47), (u 48), (u 49), (u 50), (u 51), (u 52), (u 53), (u 54), (u 55), (u 56), (u 57), (u 58), (u 59), (u 60), (u 61), (u 62), (u 63), .int .i64 (n : Nat), .int .i64 (k : Nat), (u 66), (u 67), (u 68), (u 69), (u 70), (u 71), (u 72), (u 73), (u 74), (u 75), .slice (some ⟨KB, 0, none⟩) 4 4, .int .i64 4, .int .i64 iz', (u 79), (u 80), (u 81), (u 82), (u 83), (u 84), (u 85), (u 86), (u 87), (u 88), (u 89), (u 90), (u 91), (u 92), (u 93), (u 94), (u 95), (u 96), (u 97), (u 98), (u 99), (u 100), (u 101), (u 102), (u 103), (u 104), (u 105), (u 106), (u 107), (u 108), (u 109), (u 110), (u 111), (u 112), (u 113), (u 114), (u 115), (u 116), (u 117), (u 118), (u 119), (u 120), (u 121), (u 122), (u 123), (u 124), (u 125), (u 126), (u 127), (u 128), (u 129), (u 130), (u 131), (u 132), (u 133), (u 134), (u 135), (u 136), (u 137), (u 138), (u 139), (u 140), (u 141), (u 142), (u 143), (u 144), (u 145), (u 146), (u 147), (u 148), (u 149), (u 150), (u 151), (u 152), (u 153), (u 154), (u 155), (u 156), (u 157), (u 158), (u 159), (u 160), (u 161), (u 162), (u 163), (u 164), (u 165), (u 166), (u 167), (u 168), (u 169), (u 170), (u 171), (u 172)]) → KSt p q how g cb st ov n k B4 B5 B9 B11 B13 KB W1 ds0 3 { tmps := t, defers := ds' ++ ds0 } W2 := fun iz' t h1 h2 =>
      ⟨t, ds', v, iz', rfl, h1, h2, hbwW'.out, hm2'.out, by have e : kindsMv p q how n k 3 = kindsMv p q how n k 2 := hsame; rw [e]; exact hrow2'.out⟩
    have hsame' := Lib.hid hsame
    have hlast' := Lib.hid hlast
    clear hlast hsame
    cases H1 <;> cases ov <;> first | (exfalso; simp [barF] at hBF; done) | skip
    all_goals
      have hH1 := hH1'.out
      have hH2 := hH2'.out
      go_wp2
      exact hnext'.out _ _ (hlast'.out _ _ rfl (frame_mk _ _ (by kernel_rfl)))
  | false =>
    cases H1 <;> cases ov <;> first | (exfalso; simp [barF] at hBF; done) | skip
    all_goals
      have hH1 := hH1'.out
      have hH2 := hH2'.out
      go_upto_region 13 with (fail)
      obtain ⟨F, hF⟩ : ∃ F, fitsB p q n k true false = F := ⟨_, rfl⟩
      have hHr := hX'.out
      refine kind_tail p q hp hq b c B4 B5 B9 B11 B13 s o k X KB how g n 2 cb st true true false v wr W2 (ds' ++ ds0) _ hn hn0 hk hs ho (frame_mk _ _ (by kernel_rfl)) hEr'.out hX'.out hb2'.out hz2'.out hX2'.out (fun i => by rw [hs1'.out, ho1'.out]; rfl) F hF _ ?_ ?_ _ (by assumption)
      · intro hF1 t' D W3 hu hbX hD hDK hbx
        obtain ⟨u', rfl⟩ := hu
        have hgood := kinds_good (n := n) (k := k) (i := 2) hbar'.out (hF.trans hF1)
        have hle := kindsMv_le p q how n k 2
        have hb3 := (hb2'.out.mono (Nat.le_refl _)).trans (by rw [hHr]; exact hbX)
        have hrow3 := own_below hrow'.out hb3
        have hbw3 := hb'.out.trans (hb3.mono hb'.out.size)
        have hbase : W1.heap.size ≤ X := by rw [← hHr]; exact hb'.out.size
        have hb3z := hb3.size
        obtain ⟨mi, hmi, hz0, hz1, hzb⟩ := info_parts mvInfo
        obtain ⟨x0, x1, x2, x3⟩ := move_cells hbx
        have hnew := new4 W3 (mvAt p q k true false) 68
        have hen := enc_one (mvAt p q k true false)
        have hmks := fun (o : Obj) (W4 : World) (hg : (W3.alloc o).grownBy W4 v.ownBlock) => marks_app hm'.out hHr (by rw [← hHr]; exact hb3) hrow3 hD hbase hDK hg
        have hrl := hrow3.lt
        have hmv : (mvAt p q k true false).enc = [.int .i64 k, .int .i64 (turnAt p q k true false 0), .bool true, .bool false] := rfl
        rw [hmv] at hnew hen
        have hcat : mvCells (kindsMv p q how n k 3) = mvCells (kindsMv p q how n k 2) ++ [.int .i64 k, .int .i64 (turnAt p q k true false 0), .bool true, .bool false] := by
          have e : kindsMv p q how n k 3 = _ := hgood
          rw [e, mvCells_snoc]; rfl
        have hlen4 : (kindsMv p q how n k 3).length = (kindsMv p q how n k 2).length + 1 := by
          have e : kindsMv p q how n k 3 = _ := hgood
          rw [e]; simp
        have hgood' := Lib.hid hgood
        have hle' := Lib.hid hle
        have hb3' := Lib.hid hb3
        have hrow3' := Lib.hid hrow3
        have hbw3' := Lib.hid hbw3
        have hbx' := Lib.hid hbx
        have hDK' := Lib.hid hDK
        have hnew' := Lib.hid hnew
        have hen' := Lib.hid hen
        have hmks' := Lib.hid hmks
        have hz0' := Lib.hid hz0
        have hz1' := Lib.hid hz1
        have hzb' := Lib.hid hzb
        have hrl' := Lib.hid hrl
        have hmv' := Lib.hid hmv
        have hcat' := Lib.hid hcat
        have hlen4' := Lib.hid hlen4
        clear hlen4 hcat hmv hrl hzb hz1 hz0 hmks hen hnew hDK hbx hbw3 hrow3 hb3 hle hgood
        go_wp2_with (first | (at_builtin; go_must (refine wpList_append_own _ rfl _ _ 63 rfl W1.heap.size 68 mi _ 4 24 Try.underlying63 hmi hz0'.out hz1'.out hzb'.out rfl (by decide) v _ _ rfl (hrow3'.out.alloc _) ⟨W3.heap.size, 0, none⟩ 1 1 [.int .i64 k, .int .i64 (turnAt p q k true false 0), .bool true, .bool false] rfl rfl ?_ ?_ ?_ ?_ ?_ ?_)))
        · exact hnew'.out
        · exact hen'.out
        · have := hle'.out; unfold maxLen; omega
        · have := hle'.out; omega
        · have := hb3z; simp; omega
        · intro v4 W4 hown4 hg4 _
          have hmk4 := hmks'.out _ W4 hg4
          have hb4 : Below W1.heap.size W1 W4 := (hbw3'.out.alloc (by omega) _).grown hg4 (by simp; omega) (fun k e => (hrl'.out k e).1)
          rw [← hlen4'.out, ← hcat'.out] at hown4
          have hown4' := Lib.hid hown4
          have hmk4' := Lib.hid hmk4
          have hb4' := Lib.hid hb4
          have hg4' := Lib.hid hg4
          clear hg4 hb4 hmk4 hown4
          go_wp2
          exact hnext'.out _ _ ⟨_, _ :: ds', v4, 3, rfl, rfl, frame_mk _ _ (by kernel_rfl), hb4'.out, hmk4'.out, hown4'.out⟩
      · intro hF0 t' D W3 hu hbX hD hDK
        obtain ⟨u', rfl⟩ := hu
        have hsame := kinds_bad (n := n) (k := k) (i := 2) hbar'.out (hF.trans hF0)
        have hb3 := (hb2'.out.mono (Nat.le_refl _)).trans (by rw [hHr]; exact hbX)
        have hrow3 := own_below hrow'.out hb3
        have hbw3 := hb'.out.trans (hb3.mono hb'.out.size)
        have hbase : W1.heap.size ≤ X := by rw [← hHr]; exact hb'.out.size
        have hmk3 : Marks W1.heap.size W3 ({ target := .collected D, args := #[] } :: ds') := Marks.cons (X := X) (w := wr) (hm'.out.next hb3) (fun d hd => by obtain ⟨D', h1, h2⟩ := hm'.out.lt d hd; exact ⟨D', h1, by omega⟩) hD (by omega) hDK
        have he : kindsMv p q how n k 3 = kindsMv p q how n k 2 := hsame
        rw [← he] at hrow3
        have hsame' := Lib.hid hsame
        have hb3' := Lib.hid hb3
        have hrow3' := Lib.hid hrow3
        have hbw3' := Lib.hid hbw3
        have hDK' := Lib.hid hDK
        have hmk3' := Lib.hid hmk3
        have he' := Lib.hid he
        clear he hmk3 hDK hbw3 hrow3 hb3 hsame
        go_wp2
        exact hnext'.out _ _ ⟨_, _ :: ds', v, 3, rfl, rfl, frame_mk _ _ (by kernel_rfl), hbw3'.out, hmk3'.out, hrow3'.out⟩
set_option maxRecDepth 1000000 in
set_option maxHeartbeats 2000000 in
theorem kind_at3 (p q : Prog) (hp : BenchFacts p) (hq : BenchFacts q) (b c B4 B5 B9 B11 B13 s o k KB how g n : Nat) (cb : Array Value) (st ov H1 H2 : Bool) (W1 wr : World) (ds0 : List Deferred) (a : Act)
    (hn : n ≤ 1152) (hn0 : 0 < n) (hk : k ≤ 1152) (hs : s ≤ 1000000) (ho : o ≤ 1000000) (hs1 : s = offV p q false) (ho1 : o = offV p q true) (hst : st = offB p q false) (hov : ov = offB p q true)
    (r1 r2 : Int) (hr1 : bits .and .u8 (how : Int) 1 = r1) (hr2 : bits .and .u8 (how : Int) 2 = r2) (hH1 : (r1 == 0) = H1) (hH2 : (r2 == 0) = H2) (kH1 : (how % 2 == 0) = H1) (kH2 : (how / 2 % 2 == 0) = H2)
    (hE1 : KEnv p q b c B4 B5 B9 B11 B13 s o k W1) (hKB : W1.heap[KB]? = some (.cells (kindCells k) 68)) (h : KSt p q how g cb st ov n k B4 B5 B9 B11 B13 KB W1 ds0 3 a wr) (Q : Exit → Act → World → Prop)
    (hnext : ∀ a' w', KSt p q how g cb st ov n k B4 B5 B9 B11 B13 KB W1 ds0 4 a' w' → Q .normal a' w') : kBody.wp Try.prog Q a wr := by
  obtain ⟨t, ds', v, iz, rfl, hiz, ⟨u, rfl⟩, hb, hm, hrow⟩ := h
  obtain rfl : iz = 3 := hiz
  conv => arg 2; whnf
  have hEr := hE1.below hb
  have hkb := (hb.block KB (Array.getElem?_eq_some_iff.1 hKB).1).trans hKB
  have c0 : wr.cell? ⟨KB, 12 + 0, none⟩ = some (.int .i64 k) := cell_of_row wr KB _ _ _ _ hkb
  have c1 : wr.cell? ⟨KB, 12 + 1, none⟩ = some (.int .i64 0) := cell_of_row wr KB _ _ _ _ hkb
  have c2 : wr.cell? ⟨KB, 12 + 2, none⟩ = some (.bool true) := cell_of_row wr KB _ _ _ _ hkb
  have c3 : wr.cell? ⟨KB, 12 + 3, none⟩ = some (.bool true) := cell_of_row wr KB _ _ _ _ hkb
  simp only [Nat.reduceAdd] at c0 c1 c2 c3
  have hE1' := Lib.hid hE1
  have hKB' := Lib.hid hKB
  have hb' := Lib.hid hb
  have hm' := Lib.hid hm
  have hrow' := Lib.hid hrow
  have hEr' := Lib.hid hEr
  have hkb' := Lib.hid hkb
  have hs1' := Lib.hid hs1
  have ho1' := Lib.hid ho1
  have hst' := Lib.hid hst
  have hov' := Lib.hid hov
  have hnext' := Lib.hid hnext
  have hr1' := Lib.hid hr1
  have hr2' := Lib.hid hr2
  have hH1' := Lib.hid hH1
  have hH2' := Lib.hid hH2
  clear hH2 hH1 hr2 hr1 hnext hov hst ho1 hs1 hkb hEr hrow hm hb hKB hE1
  go_upto_region 12 with (fail)
  refine wp_alloc4 ?_
  intro W2 hb2 hX2 hz2
  clear c0 c1 c2 c3
  obtain ⟨x0, x1, x2, x3⟩ := move_cells hX2
  have hr1 := hr1'.out
  have hr2 := hr2'.out
  obtain ⟨X, hX⟩ : ∃ X, wr.heap.size = X := ⟨_, rfl⟩
  rw [hX] at hX2 hz2 x0 x1 x2 x3 ⊢
  obtain ⟨BF, hBF⟩ : ∃ BF, barF H1 H2 st ov true true = BF := ⟨_, rfl⟩
  have hbar : barB p q how true true = BF := by rw [barB_eq, kH1, kH2, ← hst'.out, ← hov'.out]; exact hBF
  have hbwW : Below W1.heap.size W1 W2 := hb'.out.trans (hb2.mono hb'.out.size)
  have hm2 := hm'.out.next hb2
  have hrow2 := own_below hrow'.out hb2
  have hbar' := Lib.hid hbar
  have kH1' := Lib.hid kH1
  have kH2' := Lib.hid kH2
  have hX' := Lib.hid hX
  have hX2' := Lib.hid hX2
  have hb2' := Lib.hid hb2
  have hz2' := Lib.hid hz2
  have hbwW' := Lib.hid hbwW
  have hm2' := Lib.hid hm2
  have hrow2' := Lib.hid hrow2
  clear hrow2 hm2 hbwW hz2 hb2 hX2 hX kH2 kH1 hbar
  cases BF with
  | true =>
    have hsame := kinds_none (n := n) (k := k) (i := 3) hbar'.out
    have hlast : ∀ (iz' : Int) t, iz' = 4 → (∃ u : Nat → Value, t = #[(u 0), (u 1), .int .u8 how, .func (.func g) #[] cb, .pointer (some ⟨B4, 0, none⟩), .pointer (some ⟨B5, 0, none⟩), (u 6), (u 7), .int .i64 (n : Nat), .pointer (some ⟨B9, 0, none⟩), .bool st, .pointer (some ⟨B11, 0, none⟩), .bool ov, .pointer (some ⟨B13, 0, none⟩), v, (u 15), (u 16), (u 17), (u 18), (u 19), (u 20), (u 21), (u 22), (u 23), (u 24), (u 25), (u 26), (u 27), (u 28), (u 29), (u 30), (u 31), (u 32), (u 33), (u 34), (u 35), (u 36), (u 37), (u 38), (u 39), (u 40), (u 41), (u 42), (u 43), (u 44), (u 45), (u 46), (u 47), (u 48), (u 49), (u 50), (u 51), (u 52), (u 53), (u 54), (u 55), (u 56), (u 57), (u 58), (u 59), (u 60), (u 61), (u 62), (u 63), .int .i64 (n : Nat), .int .i64 (k : Nat), (u 66), (u 67), (u 68), (u 69), (u 70), (u 71), (u 72), (u 73), (u 74), (u 75), .slice (some ⟨KB, 0, none⟩) 4 4, .int .i64 4, .int .i64 iz', (u 79), (u 80), (u 81), (u 82), (u 83), (u 84), (u 85), (u 86), (u 87), (u 88), (u 89), (u 90), (u 91), (u 92), (u 93), (u 94), (u 95), (u 96), (u 97), (u 98), (u 99), (u 100), (u 101), (u 102), (u 103), (u 104), (u 105), (u 106), (u 107), (u 108), (u 109), (u 110), (u 111), (u 112), (u 113), (u 114), (u 115), (u 116), (u 117), (u 118), (u 119), (u 120), (u 121), (u 122), (u 123), (u 124), (u 125), (u 126), (u 127), (u 128), (u 129), (u 130), (u 131), (u 132), (u 133), (u 134), (u 135), (u 136), (u 137), (u 138), (u 139), (u 140), (u 141), (u 142), (u 143), (u 144), (u 145), (u 146), (u 147), (u 148), (u 149), (u 150), (u 151), (u 152), (u 153), (u 154), (u 155), (u 156), (u 157), (u 158), (u 159), (u 160), (u 161), (u 162), (u 163), (u 164), (u 165), (u 166), (u 167), (u 168), (u 169), (u 170), (u 171), (u 172)]) → KSt p q how g cb st ov n k B4 B5 B9 B11 B13 KB W1 ds0 4 { tmps := t, defers := ds' ++ ds0 } W2 := fun iz' t h1 h2 =>
      ⟨t, ds', v, iz', rfl, h1, h2, hbwW'.out, hm2'.out, by have e : kindsMv p q how n k 4 = kindsMv p q how n k 3 := hsame; rw [e]; exact hrow2'.out⟩
    have hsame' := Lib.hid hsame
    have hlast' := Lib.hid hlast
    clear hlast hsame
    cases H1 <;> cases H2 <;> cases ov <;> first | (exfalso; simp [barF] at hBF; done) | skip
    all_goals
      have hH1 := hH1'.out
      have hH2 := hH2'.out
      go_wp2
      exact hnext'.out _ _ (hlast'.out _ _ rfl (frame_mk _ _ (by kernel_rfl)))
  | false =>
    cases H1 <;> cases H2 <;> cases ov <;> first | (exfalso; simp [barF] at hBF; done) | skip
    all_goals
      have hH1 := hH1'.out
      have hH2 := hH2'.out
      go_upto_region 13 with (fail)
      obtain ⟨F, hF⟩ : ∃ F, fitsB p q n k true true = F := ⟨_, rfl⟩
      have hHr := hX'.out
      refine kind_tail p q hp hq b c B4 B5 B9 B11 B13 s o k X KB how g n 3 cb st true true true v wr W2 (ds' ++ ds0) _ hn hn0 hk hs ho (frame_mk _ _ (by kernel_rfl)) hEr'.out hX'.out hb2'.out hz2'.out hX2'.out (fun i => by rw [hs1'.out, ho1'.out]; rfl) F hF _ ?_ ?_ _ (by assumption)
      · intro hF1 t' D W3 hu hbX hD hDK hbx
        obtain ⟨u', rfl⟩ := hu
        have hgood := kinds_good (n := n) (k := k) (i := 3) hbar'.out (hF.trans hF1)
        have hle := kindsMv_le p q how n k 3
        have hb3 := (hb2'.out.mono (Nat.le_refl _)).trans (by rw [hHr]; exact hbX)
        have hrow3 := own_below hrow'.out hb3
        have hbw3 := hb'.out.trans (hb3.mono hb'.out.size)
        have hbase : W1.heap.size ≤ X := by rw [← hHr]; exact hb'.out.size
        have hb3z := hb3.size
        obtain ⟨mi, hmi, hz0, hz1, hzb⟩ := info_parts mvInfo
        obtain ⟨x0, x1, x2, x3⟩ := move_cells hbx
        have hnew := new4 W3 (mvAt p q k true true) 68
        have hen := enc_one (mvAt p q k true true)
        have hmks := fun (o : Obj) (W4 : World) (hg : (W3.alloc o).grownBy W4 v.ownBlock) => marks_app hm'.out hHr (by rw [← hHr]; exact hb3) hrow3 hD hbase hDK hg
        have hrl := hrow3.lt
        have hmv : (mvAt p q k true true).enc = [.int .i64 k, .int .i64 (turnAt p q k true true 0), .bool true, .bool true] := rfl
        rw [hmv] at hnew hen
        have hcat : mvCells (kindsMv p q how n k 4) = mvCells (kindsMv p q how n k 3) ++ [.int .i64 k, .int .i64 (turnAt p q k true true 0), .bool true, .bool true] := by
          have e : kindsMv p q how n k 4 = _ := hgood
          rw [e, mvCells_snoc]; rfl
        have hlen4 : (kindsMv p q how n k 4).length = (kindsMv p q how n k 3).length + 1 := by
          have e : kindsMv p q how n k 4 = _ := hgood
          rw [e]; simp
        have hgood' := Lib.hid hgood
        have hle' := Lib.hid hle
        have hb3' := Lib.hid hb3
        have hrow3' := Lib.hid hrow3
        have hbw3' := Lib.hid hbw3
        have hbx' := Lib.hid hbx
        have hDK' := Lib.hid hDK
        have hnew' := Lib.hid hnew
        have hen' := Lib.hid hen
        have hmks' := Lib.hid hmks
        have hz0' := Lib.hid hz0
        have hz1' := Lib.hid hz1
        have hzb' := Lib.hid hzb
        have hrl' := Lib.hid hrl
        have hmv' := Lib.hid hmv
        have hcat' := Lib.hid hcat
        have hlen4' := Lib.hid hlen4
        clear hlen4 hcat hmv hrl hzb hz1 hz0 hmks hen hnew hDK hbx hbw3 hrow3 hb3 hle hgood
        go_wp2_with (first | (at_builtin; go_must (refine wpList_append_own _ rfl _ _ 63 rfl W1.heap.size 68 mi _ 4 24 Try.underlying63 hmi hz0'.out hz1'.out hzb'.out rfl (by decide) v _ _ rfl (hrow3'.out.alloc _) ⟨W3.heap.size, 0, none⟩ 1 1 [.int .i64 k, .int .i64 (turnAt p q k true true 0), .bool true, .bool true] rfl rfl ?_ ?_ ?_ ?_ ?_ ?_)))
        · exact hnew'.out
        · exact hen'.out
        · have := hle'.out; unfold maxLen; omega
        · have := hle'.out; omega
        · have := hb3z; simp; omega
        · intro v4 W4 hown4 hg4 _
          have hmk4 := hmks'.out _ W4 hg4
          have hb4 : Below W1.heap.size W1 W4 := (hbw3'.out.alloc (by omega) _).grown hg4 (by simp; omega) (fun k e => (hrl'.out k e).1)
          rw [← hlen4'.out, ← hcat'.out] at hown4
          have hown4' := Lib.hid hown4
          have hmk4' := Lib.hid hmk4
          have hb4' := Lib.hid hb4
          have hg4' := Lib.hid hg4
          clear hg4 hb4 hmk4 hown4
          go_wp2
          exact hnext'.out _ _ ⟨_, _ :: ds', v4, 4, rfl, rfl, frame_mk _ _ (by kernel_rfl), hb4'.out, hmk4'.out, hown4'.out⟩
      · intro hF0 t' D W3 hu hbX hD hDK
        obtain ⟨u', rfl⟩ := hu
        have hsame := kinds_bad (n := n) (k := k) (i := 3) hbar'.out (hF.trans hF0)
        have hb3 := (hb2'.out.mono (Nat.le_refl _)).trans (by rw [hHr]; exact hbX)
        have hrow3 := own_below hrow'.out hb3
        have hbw3 := hb'.out.trans (hb3.mono hb'.out.size)
        have hbase : W1.heap.size ≤ X := by rw [← hHr]; exact hb'.out.size
        have hmk3 : Marks W1.heap.size W3 ({ target := .collected D, args := #[] } :: ds') := Marks.cons (X := X) (w := wr) (hm'.out.next hb3) (fun d hd => by obtain ⟨D', h1, h2⟩ := hm'.out.lt d hd; exact ⟨D', h1, by omega⟩) hD (by omega) hDK
        have he : kindsMv p q how n k 4 = kindsMv p q how n k 3 := hsame
        rw [← he] at hrow3
        have hsame' := Lib.hid hsame
        have hb3' := Lib.hid hb3
        have hrow3' := Lib.hid hrow3
        have hbw3' := Lib.hid hbw3
        have hDK' := Lib.hid hDK
        have hmk3' := Lib.hid hmk3
        have he' := Lib.hid he
        clear he hmk3 hDK hbw3 hrow3 hb3 hsame
        go_wp2
        exact hnext'.out _ _ ⟨_, _ :: ds', v, 4, rfl, rfl, frame_mk _ _ (by kernel_rfl), hbw3'.out, hmk3'.out, hrow3'.out⟩
end Go.Proofs.Ytnboppombhibbaa
