/- Aids for bench.search: frames with many unknown slots, codes taken out of a function, the plain run over phases. bench.search: what a round over the phases does. bench.search: one kind of moves, not barred: the phases are tried, and the move is kept if it fits. -/
import Derived.Test.YtnboppombhibbaaMv
import Derived.Test.YtnboppombhibbaaP4Moire
import Derived.RangeFuncWrites
namespace Go.Proofs.Ytnboppombhibbaa
open Go.RowKit Go.Shelf Go.Sort Go.Lib
set_option linter.unusedVariables false
set_option linter.unusedSimpArgs false
theorem frame_mk (F : (Nat → Value) → Array Value) (t : Array Value) (h : t = F (fun i => t.getD i undef)) : ∃ u, t = F u := ⟨_, h⟩
def loopsOf : Code → List Code
  | .loop c => [c]
  | .seq a b => loopsOf a ++ loopsOf b
  | .block _ c => loopsOf c
  | .scope c => loopsOf c
  | .cond _ a b => loopsOf a ++ loopsOf b
  | _ => []
def rangesOf : Code → List Code
  | .rangeFunc _ _ _ c => [c]
  | .seq a b => rangesOf a ++ rangesOf b
  | .block _ c => rangesOf c
  | .scope c => rangesOf c
  | .loop c => rangesOf c
  | .cond _ a b => rangesOf a ++ rangesOf b
  | _ => []
/-- The code that begins with a region. -/
def fromRegion (n : Nat) : Code → List Code
  | .region m o d => if m = n then [.region m o d] else []
  | .seq a b => match a with
    | .region m _ _ => if m = n then [.seq a b] else fromRegion n b
    | _ => fromRegion n a ++ fromRegion n b
  | .block _ c => fromRegion n c
  | .scope c => fromRegion n c
  | .loop c => fromRegion n c
  | .cond _ a b => fromRegion n a ++ fromRegion n b
  | _ => []
def seqL : Code → Code
  | .seq a _ => a
  | c => c
def seqR : Code → Code
  | .seq _ b => b
  | c => c
def stepB (T : Nat → Int) (st : Int × Bool) (j : Nat) : Int × Bool := (if j = 0 then T 0 else st.1, st.2 && (T j == (if j = 0 then T 0 else st.1)))
def runB (T : Nat → Int) (l : List Nat) : Int × Bool := l.foldl (stepB T) (0, true)
theorem runB_snoc (T : Nat → Int) (l : List Nat) (j : Nat) : runB T (l ++ [j]) = stepB T (runB T l) j := by unfold runB; rw [List.foldl_append]; rfl
theorem runB_range (T : Nat → Int) : ∀ n, 0 < n → runB T (List.range n) = (T 0, (List.range n).all fun j => T j == T 0) := by
  intro n
  induction n with
  | zero => intro h; omega
  | succ n ih =>
    intro _
    rw [List.range_succ, runB_snoc]
    rcases Nat.eq_zero_or_pos n with h | h
    · subst h
      simp [runB, stepB]
    · rw [ih h]
      unfold stepB
      rw [if_neg (by omega), List.all_append]
      simp
theorem runB_prefix {N : Nat} {T : Nat → Int} {pre : List (Fin N)} (hp : pre <+: List.finRange N) (h : (runB T (pre.map (·.1))).2 = false) : ((List.range N).all fun j => T j == T 0) = false := by
  obtain ⟨r, hr⟩ := hp
  have h1 : (pre.map (·.1)) ++ (r.map (·.1)) = List.range N := by
    rw [← finRange_val N, ← List.map_append, hr]
  have hlen : pre.length ≤ N := by
    have := congrArg List.length h1
    simp at this
    omega
  have h2 : pre.map (·.1) = List.range pre.length := by
    have h3 := congrArg (List.take pre.length) h1
    rw [List.take_left' (by simp), List.take_range, Nat.min_eq_left hlen] at h3
    exact h3
  have hpos : 0 < pre.length := by
    rcases Nat.eq_zero_or_pos pre.length with h0 | h0
    · have : pre = [] := List.eq_nil_of_length_eq_zero h0
      subst this
      simp [runB] at h
    · exact h0
  rw [h2, runB_range T _ hpos] at h
  simp only [List.all_eq_false] at h ⊢
  obtain ⟨x, hx, hne⟩ := h
  exact ⟨x, List.mem_range.2 (by have := List.mem_range.1 hx; omega), hne⟩
theorem KeepsFrom.of_below {B : Nat} {W W' : World} (h : Below W.heap.size W W') : KeepsFrom B W W' :=
  ⟨h.size, fun k o _ hk _ => (h.block k (Array.getElem?_eq_some_iff.1 hk).1).trans hk⟩
theorem Kept.of_below {n₀ : Nat} {Bs : List Nat} {W W' : World} (h : Below W.heap.size W W') (hn : n₀ ≤ W.heap.size) (hBs : ∀ B ∈ Bs, B < W.heap.size) : Kept n₀ Bs W W' :=
  ⟨h.mono hn, fun B hB => h.block B (hBs B hB)⟩
theorem Kept.of_grown {n₀ X : Nat} {Bs : List Nat} {W W' : World} (h : W.grownBy W' (some X)) (hn : n₀ ≤ X) (hn2 : n₀ ≤ W.heap.size) (hBs : ∀ B ∈ Bs, B < W.heap.size ∧ B ≠ X) : Kept n₀ Bs W W' :=
  ⟨(Below.refl n₀ W).grown h hn2 (fun k e => by cases e; exact hn), fun B hB => h.block B (hBs B hB).1 (fun e => by cases e; exact (hBs X hB).2 rfl)⟩
/-- A new block of four cells: its world under a name. -/
theorem wpIn_alloc4 {F : Fence} {n : Nat} {P : Program} {c : Code} {Q : Exit → Act → World → Prop} {a : Act} {W1 : World} {v0 v1 v2 v3 : Value} {t : TypeId}
    (h : ∀ W2, Below W1.heap.size W1 W2 → W2.heap[W1.heap.size]? = some (.cells #[v0, v1, v2, v3] t) → W2.heap.size = W1.heap.size + 1 → c.wpIn F n P Q a W2) : c.wpIn F n P Q a (W1.alloc (.cells #[v0, v1, v2, v3] t)) :=
  h _ (alc1 _ _) (alc_at _ _) (by simp)
theorem wp_alloc4 {P : Program} {c : Code} {Q : Exit → Act → World → Prop} {a : Act} {W1 : World} {v0 v1 v2 v3 : Value} {t : TypeId}
    (h : ∀ W2, Below W1.heap.size W1 W2 → W2.heap[W1.heap.size]? = some (.cells #[v0, v1, v2, v3] t) → W2.heap.size = W1.heap.size + 1 → c.wp P Q a W2) : c.wp P Q a (W1.alloc (.cells #[v0, v1, v2, v3] t)) :=
  h _ (alc1 _ _) (alc_at _ _) (by simp)
theorem turn_set {W : World} {n Y : Nat} {v0 v1 v2 v3 u : Value} {t : TypeId} (h : W.heap[Y]? = some (.cells #[v0, v1, v2, v3] t)) : ((W.drewN n).setCell ⟨Y, 1, none⟩ u).heap[Y]? = some (.cells #[v0, u, v2, v3] t) := by
  rw [heap_setAt (W := W.drewN n) h]; rfl
theorem set4 {W : World} {X : Nat} {v0 v1 v2 v3 u0 u1 u2 u3 : Value} {t : TypeId} (h : W.heap[X]? = some (.cells #[v0, v1, v2, v3] t)) : ((((W.setCell ⟨X, 0, none⟩ u0).setCell ⟨X, 1, none⟩ u1).setCell ⟨X, 2, none⟩ u2).setCell ⟨X, 3, none⟩ u3).heap[X]? = some (.cells #[u0, u1, u2, u3] t) := by
  have h1 := heap_setAt (i := 0) (u := u0) h
  have h2 := heap_setAt (i := 1) (u := u1) h1
  have h3 := heap_setAt (i := 2) (u := u2) h2
  have h4 := heap_setAt (i := 3) (u := u3) h3
  rw [h4]
  rfl
theorem grown_set4 {W : World} {X : Nat} {u0 u1 u2 u3 : Value} (hX : X < W.heap.size) : W.grownBy ((((W.setCell ⟨X, 0, none⟩ u0).setCell ⟨X, 1, none⟩ u1).setCell ⟨X, 2, none⟩ u2).setCell ⟨X, 3, none⟩ u3) (some X) :=
  ⟨rfl, rfl, rfl, by simp [World.setCell], fun k hk hne => by
    have hk' : k ≠ X := fun e => hne (by rw [e])
    exact (Below.heap_setCell _ _ _ _ hk').trans ((Below.heap_setCell _ _ _ _ hk').trans ((Below.heap_setCell _ _ _ _ hk').trans (Below.heap_setCell _ _ _ _ hk')))⟩
end Go.Proofs.Ytnboppombhibbaa
namespace Go.Proofs.Ytnboppombhibbaa
open Go.RowKit Go.Shelf Go.Sort Go.Lib
set_option linter.unusedVariables false
set_option linter.unusedSimpArgs false
attribute [local go_sem] Oper.semAt_some
attribute [local go_sem ↓] Go.wp_at_zero Go.wp_at_succ
noncomputable def sBody : Code := (loopsOf ((Try.f78).body.getD .skip)).getD 0 .skip
noncomputable def kBody : Code := (loopsOf sBody).getD 0 .skip
noncomputable def fBody : Code := (loopsOf sBody).getD 1 .skip
noncomputable def rBody : Code := (rangesOf kBody).getD 0 .skip
/-- What search has at hand while it tries the four kinds. -/
structure KEnv (p q : Prog) (b c B4 B5 B9 B11 B13 : Nat) (s o : Nat) (k : Nat) (W : World) : Prop where
  one : IsBench W b p
  two : IsBench W c q
  b4 : W.heap[B4]? = some (.cells #[.pointer (some ⟨b, 0, none⟩)] 84)
  b5 : W.heap[B5]? = some (.cells #[.pointer (some ⟨c, 0, none⟩)] 84)
  b9 : W.heap[B9]? = some (.cells #[.int .i64 (s : Int)] 3)
  b11 : W.heap[B11]? = some (.cells #[.int .i64 (o : Int)] 3)
  b13 : W.heap[B13]? = some (.cells #[.int .i64 (k : Int)] 3)
theorem KEnv.below {p q : Prog} {b c B4 B5 B9 B11 B13 s o k : Nat} {W W' : World} (h : KEnv p q b c B4 B5 B9 B11 B13 s o k W) (hb : Below W.heap.size W W') : KEnv p q b c B4 B5 B9 B11 B13 s o k W' :=
  ⟨h.one.below hb, h.two.below hb, (hb.block _ (Array.getElem?_eq_some_iff.1 h.b4).1).trans h.b4, (hb.block _ (Array.getElem?_eq_some_iff.1 h.b5).1).trans h.b5, (hb.block _ (Array.getElem?_eq_some_iff.1 h.b9).1).trans h.b9, (hb.block _ (Array.getElem?_eq_some_iff.1 h.b11).1).trans h.b11, (hb.block _ (Array.getElem?_eq_some_iff.1 h.b13).1).trans h.b13⟩
/-- Between two phases: the blocks Bs and all below X as they were; the move tried so far; all turns alike. -/
structure RInv (T : Nat → Int) (k : Int) (mi ba : Bool) (X : Nat) (Bs : List Nat) (W0 : World) (l : List Nat) (W : World) : Prop where
  kept : Kept X Bs W0 W
  size : W0.heap.size ≤ W.heap.size
  box : W.heap[X]? = some (.cells #[.int .i64 k, .int .i64 (runB T l).1, .bool mi, .bool ba] 68)
  fits : (runB T l).2 = true
structure RStop (T : Nat → Int) (X : Nat) (Bs : List Nat) (W0 : World) (l : List Nat) (cc : Code) (W : World) : Prop where
  kept : Kept X Bs W0 W
  size : W0.heap.size ≤ W.heap.size
  code : cc = .exit 3
  fails : (runB T l).2 = false
theorem move_cells {W : World} {X : Nat} {v0 v1 v2 v3 : Value} {t : TypeId} (h : W.heap[X]? = some (.cells #[v0, v1, v2, v3] t)) :
    W.cell? ⟨X, 0, none⟩ = some v0 ∧ W.cell? ⟨X, 1, none⟩ = some v1 ∧ W.cell? ⟨X, 2, none⟩ = some v2 ∧ W.cell? ⟨X, 3, none⟩ = some v3 :=
  ⟨cell_of_row W X 0 _ _ _ h, cell_of_row W X 1 _ _ _ h, cell_of_row W X 2 _ _ _ h, cell_of_row W X 3 _ _ _ h⟩
/-- What is known behind the store of the turn. -/
theorem after_turn {W W2 : World} {X Y : Nat} {v0 v1 v2 v3 y0 y1 y2 y3 : Value} {t : TypeId} (hb : Below W.heap.size W W2) (hY : W.heap.size ≤ Y) (hX : X < W.heap.size) (hx : W2.heap[X]? = some (.cells #[v0, v1, v2, v3] t)) (n : Nat) (u : Value) :
    Below W.heap.size W ((W2.drewN n).setCell ⟨Y, 1, none⟩ u) ∧ ((W2.drewN n).setCell ⟨Y, 1, none⟩ u).heap[X]? = some (.cells #[v0, v1, v2, v3] t) :=
  ⟨(below_drewN' hb n).setCell (p := ⟨Y, 1, none⟩) hY _, (Below.heap_setCell (W2.drewN n) ⟨Y, 1, none⟩ u X (by show X ≠ Y; omega)).trans hx⟩
theorem fin_same {T : Nat → Int} {k : Int} {mi ba : Bool} {X N0 : Nat} {Bs : List Nat} {W0 W W3 : World} {l l' : List Nat} {t1 : Int} (hI : RInv T k mi ba X Bs W0 l W) (hN : N0 ≤ W0.heap.size) (hX : X < N0) (hBs : ∀ B ∈ Bs, B < W0.heap.size ∧ B ≠ X) (hb : Below W.heap.size W W3)
    (hx : W3.heap[X]? = some (.cells #[.int .i64 k, .int .i64 t1, .bool mi, .bool ba] 68)) (hT : runB T l' = (t1, true)) : KeepsFrom N0 W W3 ∧ Kept X Bs W W3 ∧ RInv T k mi ba X Bs W0 l' W3 := by
  have hs := hI.size
  have hk : Kept X Bs W W3 := Kept.of_below hb (by omega) (fun B hB => by have := (hBs B hB).1; omega)
  exact ⟨KeepsFrom.of_below hb, hk, hI.kept.trans hk, Nat.le_trans hs hb.size, by rw [hT]; exact hx, by rw [hT]⟩
theorem fin_stop {T : Nat → Int} {k : Int} {mi ba : Bool} {X N0 : Nat} {Bs : List Nat} {W0 W W3 : World} {l l' : List Nat} {t1 : Int} (hI : RInv T k mi ba X Bs W0 l W) (hN : N0 ≤ W0.heap.size) (hX : X < N0) (hBs : ∀ B ∈ Bs, B < W0.heap.size ∧ B ≠ X) (hb : Below W.heap.size W W3)
    (hT : runB T l' = (t1, false)) : KeepsFrom N0 W W3 ∧ RStop T X Bs W0 l' (.exit 3) W3 := by
  have hs := hI.size
  have hk : Kept X Bs W W3 := Kept.of_below hb (by omega) (fun B hB => by have := (hBs B hB).1; omega)
  exact ⟨KeepsFrom.of_below hb, hI.kept.trans hk, Nat.le_trans hs hb.size, rfl, by rw [hT]⟩
theorem fin_first {T : Nat → Int} {k : Int} {mi ba : Bool} {X N0 : Nat} {Bs : List Nat} {W0 W W3 : World} {l l' : List Nat} {t1 : Int} {v0 v1 v2 v3 : Value} (hI : RInv T k mi ba X Bs W0 l W) (hN : N0 ≤ W0.heap.size) (hX : X < N0) (hBs : ∀ B ∈ Bs, B < W0.heap.size ∧ B ≠ X) (hb : Below W.heap.size W W3)
    (hx : W3.heap[X]? = some (.cells #[v0, v1, v2, v3] 68)) (hT : runB T l' = (t1, true)) :
    KeepsFrom N0 W ((((W3.setCell ⟨X, 0, none⟩ (.int .i64 k)).setCell ⟨X, 1, none⟩ (.int .i64 t1)).setCell ⟨X, 2, none⟩ (.bool mi)).setCell ⟨X, 3, none⟩ (.bool ba)) ∧
      Kept X Bs W ((((W3.setCell ⟨X, 0, none⟩ (.int .i64 k)).setCell ⟨X, 1, none⟩ (.int .i64 t1)).setCell ⟨X, 2, none⟩ (.bool mi)).setCell ⟨X, 3, none⟩ (.bool ba)) ∧
      RInv T k mi ba X Bs W0 l' ((((W3.setCell ⟨X, 0, none⟩ (.int .i64 k)).setCell ⟨X, 1, none⟩ (.int .i64 t1)).setCell ⟨X, 2, none⟩ (.bool mi)).setCell ⟨X, 3, none⟩ (.bool ba)) := by
  have hs := hI.size
  have hbz := hb.size
  have hxl := (Array.getElem?_eq_some_iff.1 hx).1
  have hg := grown_set4 (u0 := .int .i64 k) (u1 := .int .i64 t1) (u2 := .bool mi) (u3 := .bool ba) hxl
  have hk : Kept X Bs W W3 := Kept.of_below hb (by omega) (fun B hB => by have := (hBs B hB).1; omega)
  have hk2 := hk.trans (Kept.of_grown (Bs := Bs) hg (Nat.le_refl _) (by omega) (fun B hB => ⟨by have := (hBs B hB).1; omega, (hBs B hB).2⟩))
  exact ⟨(KeepsFrom.of_below hb).trans (KeepsFrom.of_grownBy hg fun j e => by cases e; exact hX), hk2, hI.kept.trans hk2, by have := hg.size; omega, by rw [hT]; exact set4 hx, by rw [hT]⟩
set_option maxRecDepth 1000000 in
set_option maxHeartbeats 2000000 in
theorem range_body (p q : Prog) (hp : BenchFacts p) (hq : BenchFacts q) (b c B4 B5 B9 B11 B13 s o k X N0 l : Nat) (mi ba : Bool) (n : Nat) (pre : List (Fin n)) (x : Fin n) (Bs : List Nat) (W0 W : World) (t : Array Value)
    (j : Nat) (hj : j = x.1) (hn : n ≤ 1152) (hk : k ≤ 1152) (hs : s ≤ 1000000) (ho : o ≤ 1000000)
    (ht : ∃ u : Nat → Value, t = #[(u 0), (u 1), (u 2), (u 3), .pointer (some ⟨B4, 0, none⟩), .pointer (some ⟨B5, 0, none⟩), (u 6), (u 7), (u 8), .pointer (some ⟨B9, 0, none⟩), (u 10), .pointer (some ⟨B11, 0, none⟩), (u 12), .pointer (some ⟨B13, 0, none⟩), (u 14), (u 15), .pointer (some ⟨X, 0, none⟩), .int .i64 (j : Nat), .int .i64 (phaseI p j), (u 19), (u 20), (u 21), (u 22), (u 23), (u 24), (u 25), (u 26), (u 27), (u 28), (u 29), (u 30), (u 31), (u 32), (u 33), (u 34), (u 35), (u 36), (u 37), (u 38), (u 39), (u 40), (u 41), (u 42), (u 43), (u 44), (u 45), (u 46), (u 47), (u 48), (u 49), (u 50), (u 51), (u 52), (u 53), (u 54), (u 55), (u 56), (u 57), (u 58), (u 59), (u 60), (u 61), (u 62), (u 63), (u 64), (u 65), (u 66), (u 67), (u 68), (u 69), (u 70), (u 71), (u 72), (u 73), (u 74), (u 75), (u 76), (u 77), (u 78), (u 79), (u 80), (u 81), (u 82), (u 83), (u 84), (u 85), (u 86), (u 87), (u 88), (u 89), (u 90), (u 91), (u 92), (u 93), (u 94), (u 95), (u 96), (u 97), (u 98), (u 99), (u 100), (u 101), (u 102), (u 103), (u 104), (u 105), (u 106), (u 107), (u 108), (u 109), (u 110), (u 111), (u 112), (u 113), (u 114), (u 115), (u 116), (u 117), (u 118), (u 119), (u 120), (u 121), (u 122), (u 123), (u 124), (u 125), (u 126), (u 127), (u 128), (u 129), (u 130), (u 131), (u 132), (u 133), (u 134), (u 135), (u 136), (u 137), (u 138), (u 139), (u 140), (u 141), (u 142), (u 143), (u 144), (u 145), (u 146), (u 147), (u 148), (u 149), (u 150), (u 151), (u 152), (u 153), (u 154), (u 155), (u 156), (u 157), (u 158), (u 159), (u 160), (u 161), (u 162), (u 163), (u 164), (u 165), (u 166), (u 167), (u 168), (u 169), (u 170), (u 171), (u 172)]) (hE : KEnv p q b c B4 B5 B9 B11 B13 s o k W) (hX : X < N0) (hN : N0 ≤ W0.heap.size) (hBs : ∀ B ∈ Bs, B < W0.heap.size ∧ B ≠ X)
    (h4 : B4 < X) (h5 : B5 < X) (h9 : B9 < X) (h11 : B11 < X) (h13 : B13 < X) (hT : ∀ i, turnAt p q k mi ba i = ((if mi then (o : Int) + phaseI p i else (s : Int) - phaseI p i) + phaseI q (if ba then (k : Int) - i else (k : Int) + i)) % (per p : Int))
    (hI : RInv (turnAt p q k mi ba) k mi ba X Bs W0 (pre.map (·.1)) W) :
    rBody.wpIn (Fence.wide.inRound l) (5 - 1 - 1) Try.prog (ownPostG N0 (Kept X Bs) (fun pre W => RInv (turnAt p q k mi ba) k mi ba X Bs W0 (pre.map (·.1)) W) (fun cc pre W => RStop (turnAt p q k mi ba) X Bs W0 (pre.map (·.1)) cc W) (pre ++ [x]) W) { tmps := t, defers := [] } W := by
  obtain ⟨u, rfl⟩ := ht
  conv => arg 4; whnf
  have hxn := x.2
  have hjn : j < n := by omega
  have hper := per_pos hp
  have hph := phaseI_bound hp j
  have e4 := cell0 hE.b4
  have e5 := cell0 hE.b5
  have e9 := cell0 hE.b9
  have e11 := cell0 hE.b11
  have e13 := cell0 hE.b13
  obtain ⟨x0, x1, x2, x3⟩ := move_cells hI.box
  obtain ⟨y, hy⟩ : ∃ y, phaseI p j = y := ⟨_, rfl⟩
  rw [hy] at hph ⊢
  generalize htx : (runB (turnAt p q k mi ba) (pre.map (·.1))).1 = tx at x1
  have hE' := Lib.hid hE
  have hI' := Lib.hid hI
  have hT' := Lib.hid hT
  have hper' := Lib.hid hper
  have hy' := Lib.hid hy
  have htx' := Lib.hid htx
  have hj' := Lib.hid hj
  clear hj htx hy hper hT hI hE
  have hq1 := hq.ros1
  have hp1 := hp.ros1
  obtain ⟨A, hA⟩ : ∃ A : Int, A = (if mi then (o : Int) + y else (s : Int) - y) := ⟨_, rfl⟩
  obtain ⟨D, hD⟩ : ∃ D : Int, D = (if ba then (k : Int) - j else (k : Int) + j) := ⟨_, rfl⟩
  have hTj := hT'.out j
  rw [hy'.out, ← hA, ← hD] at hTj
  have hAb : -1000096 ≤ A ∧ A ≤ 1000096 := by rw [hA]; split <;> omega
  have hDb : -1000000 ≤ D ∧ D ≤ 1000000 := by rw [hD]; split <;> omega
  have hz := phaseI_bound hq D
  have hphc : ∀ W, IsBench W c q → Calls Try.prog 58 #[.pointer (some ⟨c, 0, none⟩), .int .i64 D] W fun e w' => e = .returned (.int .i64 (phaseI q D)) ∧ ∃ n, w' = W.drewN n := fun W h => pf_phase c q D W h hq hDb.1 hDb.2
  generalize phaseI q D = z at hTj hz hphc
  have hmod : ∀ W : World, Calls Try.prog 57 #[.int .i64 (A + z), .int .i64 (per p)] W fun e w' => e = .returned (.int .i64 (turnAt p q k mi ba j)) ∧ W = w' := fun W => by
    have h := pf_pat_modulo (A + z) (per p) W (by have := hper'.out; omega) (by have := hper'.out; omega) (by unfold Mid; omega)
    rw [← hTj] at h
    exact h
  have i1 : IntKind.i64.wrap ((k : Int) + j) = (k : Int) + j := IntWalk.i64_in _ (by omega)
  have i2 : IntKind.i64.wrap ((s : Int) - y) = (s : Int) - y := IntWalk.i64_in _ (by omega)
  have i5 : IntKind.i64.wrap (A + z) = A + z := IntWalk.i64_in _ (by omega)
  clear hTj hT'
  have hTn := runB_snoc (turnAt p q k mi ba) (pre.map (·.1)) x.1
  have hmap : (pre ++ [x]).map (·.1) = pre.map (·.1) ++ [x.1] := by simp
  rw [← hmap, ← hj'.out] at hTn
  unfold stepB at hTn
  rw [htx'.out, show (runB (turnAt p q k mi ba) (pre.map (·.1))).2 = true from hI'.out.fits, Bool.true_and] at hTn
  clear hmap
  have hphc' := Lib.hid hphc
  have hmod' := Lib.hid hmod
  have hz' := Lib.hid hz
  have hTn' := Lib.hid hTn
  have hA' := Lib.hid hA
  have hD' := Lib.hid hD
  clear hD hA hTn hz hmod hphc
  cases mi <;> cases ba
  all_goals
    have hA := hA'.out
    have hD := hD'.out
    clear hA' hD'
    first | rw [if_pos rfl] at hA | rw [if_neg (by decide)] at hA
    first | rw [if_pos rfl] at hD | rw [if_neg (by decide)] at hD
    have hA' := Lib.hid hA
    have hD' := Lib.hid hD
    clear hD hA
    gi_wp2
    refine wpR_region_quiet_lit (by kernel_rfl) (by kernel_rfl) (by kernel_rfl) ?_
    repeat (go_big_quiet_step (fail))
    refine wpQuiet_nil ?_
    intro _ hw'
    obtain ⟨nq, hw''⟩ := hw'
    subst hw''
    have hE1 := hE'.out.below (below_drewN' (Below.refl _ W) nq)
    have hb1 := below_drewN' (Below.refl W.heap.size W) nq
    have hx1 : (W.drewN nq).heap[X]? = _ := hI'.out.box
    clear e4 e5 e9 e11 e13 x0 x1 x2 x3
    rw [htx'.out] at hx1
    generalize W.drewN nq = W1 at hE1 hb1 hx1 ⊢
    have e4 := cell0 hE1.b4
    have e5 := cell0 hE1.b5
    have e9 := cell0 hE1.b9
    have e11 := cell0 hE1.b11
    have e13 := cell0 hE1.b13
    obtain ⟨x0, x1, x2, x3⟩ := move_cells hx1
    have hE1' := Lib.hid hE1
    have hb1' := Lib.hid hb1
    have hx1' := Lib.hid hx1
    clear hx1 hb1 hE1
    gi_wp2
    rw [← hA'.out, ← hD'.out]
    refine wpIn_alloc4 ?_
    intro W2 hb2 hY2 hz2
    have hz1 := hb1'.out.size
    have hx2 := (hb2.block X (by have := (Array.getElem?_eq_some_iff.1 hx1'.out).1; omega)).trans hx1'.out
    have hE2 := hE1'.out.below hb2
    have hb02 : Below W.heap.size W W2 := hb1'.out.trans (hb2.mono hz1)
    obtain ⟨Y, hYd⟩ : ∃ Y, W1.heap.size = Y := ⟨_, rfl⟩
    rw [hYd] at hY2 hz1 hz2 ⊢
    clear e4 e5 e9 e11 e13 x0 x1 x2 x3 hE1' hb1' hx1' hb2
    have e4 := cell0 hE2.b4
    have e5 := cell0 hE2.b5
    obtain ⟨_, _, -, -, -, -, -, -, -, -, -, c9⟩ := hE2.one.cells
    replace c9 : W2.cell? ⟨b, 9, none⟩ = some (.int .i64 (per p)) := c9
    obtain ⟨y0, y1, y2, y3⟩ := move_cells hY2
    have yf := frozen0 hY2 1
    obtain ⟨x0, x1, x2, x3⟩ := move_cells hx2
    have f0 := frozen0 hx2 0
    have f1 := frozen0 hx2 1
    have f2 := frozen0 hx2 2
    have f3 := frozen0 hx2 3
    have hXl := (Array.getElem?_eq_some_iff.1 hI'.out.box).1
    have hXY : ¬ X = Y := by omega
    have hYX : ¬ Y = X := by omega
    have hE2' := Lib.hid hE2
    have hb02' := Lib.hid hb02
    have hx2' := Lib.hid hx2
    have hY2' := Lib.hid hY2
    have hYd' := Lib.hid hYd
    clear hYd hY2 hx2 hb02 hE2
    refine wpF_region_quiet_tail (lets_round l) 11 (by kernel_rfl) (by kernel_rfl) (by kernel_rfl) ?_
    simp only [List.take_succ_cons, List.take_zero, List.drop_succ_cons, List.drop_zero]
    repeat (go_big_quiet_step (first | (go_at_call 58; exact Calls.quiet_of (hphc'.out _ (hE2'.out.two.below (below_drewN' (Below.refl _ _) _)))) | (go_at_call 57; exact quiet_same' (hmod'.out _))))
    refine wpQuiet_nil ?_
    intro _ hw'
    obtain ⟨nq, hw''⟩ := hw'
    subst hw''
    obtain ⟨hb03, hx3⟩ := after_turn (y0 := undef) (y1 := undef) (y2 := undef) (y3 := undef) hb02'.out hz1 hXl hx2'.out nq (.int .i64 (turnAt p q k _ _ j))
    have hb03' := Lib.hid hb03
    have hx3' := Lib.hid hx3
    clear hx3 hb03
    by_cases h0 : j = 0
    · have hj0 : ((j : Int) == 0) = true := by simp [h0]
      have hTf := hTn'.out
      rw [if_pos h0, h0, beq_self_eq_true] at hTf
      rw [← h0] at hTf
      have h0' := Lib.hid h0
      have hTf' := Lib.hid hTf
      clear hTf h0
      gi_wp2
      exact fin_first hI'.out hN hX hBs hb03'.out hx3'.out hTf'.out
    · have hj0 : ((j : Int) == 0) = false := by simp [h0]
      have hTf := hTn'.out
      rw [if_neg h0] at hTf
      clear hTn'
      generalize turnAt p q k _ _ j = tj at hTf hb03' hx3' ⊢
      by_cases hTx : tj = tx
      · subst hTx
        rw [beq_self_eq_true] at hTf
        have hTf' := Lib.hid hTf
        clear hTf
        gi_wp2
        exact fin_same hI'.out hN hX hBs hb03'.out hx3'.out hTf'.out
      · have hTb : (tx == tj) = false := by simpa using fun h => hTx h.symm
        have hTb2 : (tj == tx) = false := by simpa using hTx
        rw [hTb2] at hTf
        have hTf' := Lib.hid hTf
        have hTx' := Lib.hid hTx
        clear hTx hTf
        gi_wp2
        exact fin_stop hI'.out hN hX hBs hb03'.out hTf'.out
end Go.Proofs.Ytnboppombhibbaa
namespace Go.Proofs.Ytnboppombhibbaa
open Go.RowKit Go.Shelf Go.Sort Go.Lib
set_option linter.unusedVariables false
set_option linter.unusedSimpArgs false
attribute [local go_sem] Oper.semAt_some
attribute [local go_sem ↓] Go.wp_at_zero Go.wp_at_succ
def mvAt (p q : Prog) (k : Nat) (mi ba : Bool) : Mv := ⟨k, turnAt p q k mi ba 0, mi, ba⟩
noncomputable def tBody : Code := (fromRegion 13 kBody).getD 0 .skip
noncomputable def tHead : Code := seqL tBody
noncomputable def tBlk : Code := seqR tBody
theorem RInv.from {β : Type} {T : Nat → Int} {k : Int} {mi ba : Bool} {X N0 : Nat} {Bs : List Nat} {W0 : World} (f : β → List Nat) (hX : X < N0) (hN : N0 ≤ W0.heap.size) (hBs : ∀ B ∈ Bs, B < N0) : OwnFrom N0 (fun s W => RInv T k mi ba X Bs W0 (f s) W) := by
  rintro s Y Z row ⟨h1, hs, h3, h4⟩ hg hrow
  refine ⟨h1.trans ⟨(Below.refl _ _).grown hg (by omega) fun k e => by have := (hrow k e).1; omega, fun B hB => hg.block B (by have := hBs B hB; omega) (fun e => by have := (hrow _ e.symm).1; have := hBs B hB; omega)⟩, Nat.le_trans hs hg.size, ?_, h4⟩
  exact (hg.block X (by omega) (fun e => by have := (hrow _ e.symm).1; omega)).trans h3
theorem RStop.from {β : Type} {T : Nat → Int} {X N0 : Nat} {Bs : List Nat} {W0 : World} (f : β → List Nat) (hX : X < N0) (hN : N0 ≤ W0.heap.size) (hBs : ∀ B ∈ Bs, B < N0) (cc : Code) : OwnFrom N0 (fun s W => RStop T X Bs W0 (f s) cc W) := by
  rintro s Y Z row ⟨h1, hs, h3, h4⟩ hg hrow
  exact ⟨h1.trans ⟨(Below.refl _ _).grown hg (by omega) fun k e => by have := (hrow k e).1; omega, fun B hB => hg.block B (by have := hBs B hB; omega) (fun e => by have := (hrow _ e.symm).1; have := hBs B hB; omega)⟩, Nat.le_trans hs hg.size, h3, h4⟩
set_option maxRecDepth 1000000 in
set_option maxHeartbeats 2000000 in
theorem kind_tail (p q : Prog) (hp : BenchFacts p) (hq : BenchFacts q) (b c B4 B5 B9 B11 B13 s o k X KB how g n : Nat) (iz : Int) (cb : Array Value) (st ov mi ba : Bool) (v : Value) (wr W : World) (ds : List Deferred) (t : Array Value)
    (hn : n ≤ 1152) (hn0 : 0 < n) (hk : k ≤ 1152) (hs : s ≤ 1000000) (ho : o ≤ 1000000)
    (ht : ∃ u : Nat → Value, t = #[(u 0), (u 1), .int .u8 how, .func (.func g) #[] cb, .pointer (some ⟨B4, 0, none⟩), .pointer (some ⟨B5, 0, none⟩), (u 6), (u 7), .int .i64 (n : Nat), .pointer (some ⟨B9, 0, none⟩), .bool st, .pointer (some ⟨B11, 0, none⟩), .bool ov, .pointer (some ⟨B13, 0, none⟩), v, (u 15), .pointer (some ⟨X, 0, none⟩), (u 17), (u 18), (u 19), (u 20), (u 21), (u 22), (u 23), (u 24), (u 25), (u 26), (u 27), (u 28), (u 29), (u 30), (u 31), (u 32), (u 33), (u 34), (u 35), (u 36), (u 37), (u 38), (u 39), (u 40), (u 41), (u 42), (u 43), (u 44), (u 45), (u 46), (u 47), (u 48), (u 49), (u 50), (u 51), (u 52), (u 53), (u 54), (u 55), (u 56), (u 57), (u 58), (u 59), (u 60), (u 61), (u 62), (u 63), .int .i64 (n : Nat), .int .i64 (k : Nat), (u 66), (u 67), (u 68), (u 69), (u 70), (u 71), (u 72), (u 73), (u 74), (u 75), .slice (some ⟨KB, 0, none⟩) 4 4, .int .i64 4, .int .i64 iz, (u 79), (u 80), (u 81), (u 82), (u 83), (u 84), (u 85), (u 86), (u 87), (u 88), (u 89), (u 90), (u 91), (u 92), (u 93), (u 94), (u 95), (u 96), (u 97), (u 98), (u 99), (u 100), (u 101), (u 102), (u 103), (u 104), (u 105), (u 106), (u 107), (u 108), (u 109), (u 110), (u 111), (u 112), (u 113), (u 114), (u 115), (u 116), (u 117), (u 118), (u 119), (u 120), (u 121), (u 122), (u 123), (u 124), (u 125), (u 126), (u 127), (u 128), (u 129), (u 130), (u 131), (u 132), (u 133), (u 134), (u 135), (u 136), (u 137), (u 138), (u 139), (u 140), (u 141), (u 142), (u 143), (u 144), (u 145), (u 146), (u 147), (u 148), (u 149), (u 150), (u 151), (u 152), (u 153), (u 154), (u 155), (u 156), (u 157), (u 158), (u 159), (u 160), (u 161), (u 162), (u 163), (u 164), (u 165), (u 166), (u 167), (u 168), (u 169), (u 170), (u 171), (u 172)]) (hE : KEnv p q b c B4 B5 B9 B11 B13 s o k wr) (hX : wr.heap.size = X) (hb : Below wr.heap.size wr W) (hW : W.heap.size = X + 1) (hbox : W.heap[X]? = some (.cells #[.int .i64 k, .int .i64 0, .bool mi, .bool ba] 68))
    (hT : ∀ i, turnAt p q k mi ba i = ((if mi then (o : Int) + phaseI p i else (s : Int) - phaseI p i) + phaseI q (if ba then (k : Int) - i else (k : Int) + i)) % (per p : Int))
    (F : Bool) (hF : fitsB p q n k mi ba = F) (Q : Exit → Act → World → Prop)
    (hyes : F = true → ∀ t' D W', (∃ u : Nat → Value, t' = #[(u 0), (u 1), .int .u8 how, .func (.func g) #[] cb, .pointer (some ⟨B4, 0, none⟩), .pointer (some ⟨B5, 0, none⟩), (u 6), (u 7), .int .i64 (n : Nat), .pointer (some ⟨B9, 0, none⟩), .bool st, .pointer (some ⟨B11, 0, none⟩), .bool ov, .pointer (some ⟨B13, 0, none⟩), v, (u 15), .pointer (some ⟨X, 0, none⟩), (u 17), (u 18), (u 19), (u 20), (u 21), (u 22), (u 23), (u 24), (u 25), (u 26), (u 27), (u 28), (u 29), (u 30), (u 31), (u 32), (u 33), (u 34), (u 35), (u 36), (u 37), (u 38), (u 39), (u 40), (u 41), (u 42), (u 43), (u 44), (u 45), (u 46), (u 47), (u 48), (u 49), (u 50), (u 51), (u 52), (u 53), (u 54), (u 55), (u 56), (u 57), (u 58), (u 59), (u 60), (u 61), (u 62), (u 63), .int .i64 (n : Nat), .int .i64 (k : Nat), (u 66), (u 67), (u 68), (u 69), (u 70), (u 71), (u 72), (u 73), (u 74), (u 75), .slice (some ⟨KB, 0, none⟩) 4 4, .int .i64 4, .int .i64 iz, (u 79), (u 80), (u 81), (u 82), (u 83), (u 84), (u 85), (u 86), (u 87), (u 88), (u 89), (u 90), (u 91), (u 92), (u 93), (u 94), (u 95), (u 96), (u 97), (u 98), (u 99), (u 100), (u 101), (u 102), (u 103), (u 104), (u 105), (u 106), (u 107), (u 108), (u 109), (u 110), (u 111), (u 112), (u 113), (u 114), (u 115), (u 116), (u 117), (u 118), (u 119), (u 120), (u 121), (u 122), (u 123), (u 124), (u 125), (u 126), (u 127), (u 128), (u 129), (u 130), (u 131), (u 132), (u 133), (u 134), (u 135), (u 136), (u 137), (u 138), (u 139), (u 140), (u 141), (u 142), (u 143), (u 144), (u 145), (u 146), (u 147), (u 148), (u 149), (u 150), (u 151), (u 152), (u 153), (u 154), (u 155), (u 156), (u 157), (u 158), (u 159), (u 160), (u 161), (u 162), (u 163), (u 164), (u 165), (u 166), (u 167), (u 168), (u 169), (u 170), (u 171), (u 172)]) → Below X W W' → X ≤ D → W'.heap[D]? = some (.deferred (some [])) → W'.heap[X]? = some (.cells #[.int .i64 k, .int .i64 (turnAt p q k mi ba 0), .bool mi, .bool ba] 68) → Q .normal { tmps := t', defers := { target := .collected D, args := #[] } :: ds } W')
    (hno : F = false → ∀ t' D W', (∃ u : Nat → Value, t' = #[(u 0), (u 1), .int .u8 how, .func (.func g) #[] cb, .pointer (some ⟨B4, 0, none⟩), .pointer (some ⟨B5, 0, none⟩), (u 6), (u 7), .int .i64 (n : Nat), .pointer (some ⟨B9, 0, none⟩), .bool st, .pointer (some ⟨B11, 0, none⟩), .bool ov, .pointer (some ⟨B13, 0, none⟩), v, (u 15), .pointer (some ⟨X, 0, none⟩), (u 17), (u 18), (u 19), (u 20), (u 21), (u 22), (u 23), (u 24), (u 25), (u 26), (u 27), (u 28), (u 29), (u 30), (u 31), (u 32), (u 33), (u 34), (u 35), (u 36), (u 37), (u 38), (u 39), (u 40), (u 41), (u 42), (u 43), (u 44), (u 45), (u 46), (u 47), (u 48), (u 49), (u 50), (u 51), (u 52), (u 53), (u 54), (u 55), (u 56), (u 57), (u 58), (u 59), (u 60), (u 61), (u 62), (u 63), .int .i64 (n : Nat), .int .i64 (k : Nat), (u 66), (u 67), (u 68), (u 69), (u 70), (u 71), (u 72), (u 73), (u 74), (u 75), .slice (some ⟨KB, 0, none⟩) 4 4, .int .i64 4, .int .i64 iz, (u 79), (u 80), (u 81), (u 82), (u 83), (u 84), (u 85), (u 86), (u 87), (u 88), (u 89), (u 90), (u 91), (u 92), (u 93), (u 94), (u 95), (u 96), (u 97), (u 98), (u 99), (u 100), (u 101), (u 102), (u 103), (u 104), (u 105), (u 106), (u 107), (u 108), (u 109), (u 110), (u 111), (u 112), (u 113), (u 114), (u 115), (u 116), (u 117), (u 118), (u 119), (u 120), (u 121), (u 122), (u 123), (u 124), (u 125), (u 126), (u 127), (u 128), (u 129), (u 130), (u 131), (u 132), (u 133), (u 134), (u 135), (u 136), (u 137), (u 138), (u 139), (u 140), (u 141), (u 142), (u 143), (u 144), (u 145), (u 146), (u 147), (u 148), (u 149), (u 150), (u 151), (u 152), (u 153), (u 154), (u 155), (u 156), (u 157), (u 158), (u 159), (u 160), (u 161), (u 162), (u 163), (u 164), (u 165), (u 166), (u 167), (u 168), (u 169), (u 170), (u 171), (u 172)]) → Below X W W' → X ≤ D → W'.heap[D]? = some (.deferred (some [])) → Q (.exit 3) { tmps := t', defers := { target := .collected D, args := #[] } :: ds } W')
    (K : Act → World → Prop) (hK : ∀ a w, tBlk.wp Try.prog Q a w → K a w) : tHead.wp Try.prog (Exit.then K Q) { tmps := t, defers := ds } W := by
  obtain ⟨u, rfl⟩ := ht
  conv => arg 2; whnf
  have hEW := hE.below hb
  have e4 := cell0 hEW.b4
  have hE' := Lib.hid hE
  have hEW' := Lib.hid hEW
  have hT' := Lib.hid hT
  have hF' := Lib.hid hF
  have hyes' := Lib.hid hyes
  have hno' := Lib.hid hno
  have hbox' := Lib.hid hbox
  have hX' := Lib.hid hX
  have hW' := Lib.hid hW
  clear hW hX hbox hno hyes hF hT hEW hE
  go_wp2_with (first | (go_at_call 54; ((with_reducible refine (pf_phases _ _ _ _).mono ?_); rintro e w' ⟨rfl, rfl⟩)))
  obtain ⟨W0, hW0, hsz, hBW, hB3, hB2, hB1⟩ := alc3_facts W (.cells #[.pointer (some ⟨b, 0, none⟩)] 84) (.cells #[.int .i64 0] 3) (.cells #[.int .i64 n] 3)
  rw [hW0]
  clear hW0
  have hX := hX'.out
  have hWz := hW'.out
  have hbW0 : Below wr.heap.size wr W0 := hb.trans (hBW.mono hb.size)
  have hwrz := hb.size
  conv => arg 2; whnf
  go_wp2
  generalize hL6 : W.heap.size = L6 at hB1 hB2 hB3 hsz hWz ⊢
  have hyield := phases1_yields p hp b 0 n wr W0 (L6 + 1 + 1) (L6 + 1) L6 X hE'.out.one (by omega) (by omega) (by omega) (by omega) (by omega) (by omega) (by omega) hbW0 (cell0 hB1) (cell0 hB2) (cell0 hB3)
  rw [show phAt p 0 n = phAt0 p n by funext i; simp [phAt, phAt0]] at hyield
  have hx0 : W0.heap[X]? = _ := (hBW.block X (by omega)).trans hbox'.out
  have hB1' := Lib.hid hB1
  have hB2' := Lib.hid hB2
  have hB3' := Lib.hid hB3
  have hx0' := Lib.hid hx0
  have hbW0' := Lib.hid hbW0
  have hyield' := Lib.hid hyield
  clear hyield hbW0 hx0 hB3 hB2 hB1
  refine (wpIn_wide (n := 5)).1 ?_
  refine wpIn_rangeFunc_ownG rfl (by omega) (gf := 90) (lb := #[.pointer (some ⟨L6 + 1 + 1, 0, none⟩), .pointer (some ⟨L6 + 1, 0, none⟩), .pointer (some ⟨L6, 0, none⟩)]) rfl trivial (enters_of Try.func90 (by kernel_rfl) rfl)
    hyield'.out Kept.trans (Kept.put (by omega) (by simp; omega)) (Below.refl _ _) (fun _ => rfl)
    (fun pre W => RInv (turnAt p q k mi ba) k mi ba X [L6 + 1 + 1, L6 + 1, L6] W0 (pre.map (·.1)) W)
    (fun cc pre W => RStop (turnAt p q k mi ba) X [L6 + 1 + 1, L6 + 1, L6] W0 (pre.map (·.1)) cc W)
    (RInv.from _ (by omega) (Nat.le_refl _) (by simp; omega)) (fun cc => RStop.from _ (by omega) (Nat.le_refl _) (by simp; omega) cc) ⟨Kept.refl _ _ _, Nat.le_refl _, hx0'.out, rfl⟩
    ?_ ?_ ?_ ?_ ?_
  rotate_left
  · intro l x W K hK
    dsimp only [phAt0]
    gi_wp2
    exact hK
  · rintro l pre x W5 hinv hlen
    have hE5 := hE'.out.below (hbW0'.out.trans (by rw [hX]; exact hinv.kept.1))
    have hlt : ∀ {B : Nat} {o : Obj}, wr.heap[B]? = some o → B < X := fun h => by have := (Array.getElem?_eq_some_iff.1 h).1; omega
    have h4 := hlt hE'.out.b4
    have h5 := hlt hE'.out.b5
    have h9 := hlt hE'.out.b9
    have h11 := hlt hE'.out.b11
    have h13 := hlt hE'.out.b13
    exact range_body p q hp hq b c B4 B5 B9 B11 B13 s o k X W0.heap.size l mi ba n pre x [L6 + 1 + 1, L6 + 1, L6] W0 W5 _ x.1 rfl hn hk hs ho (frame_mk _ _ (by kernel_rfl)) hE5 (by omega) (Nat.le_refl _) (by simp; omega) h4 h5 h9 h11 h13 hT'.out hinv
  · rintro D ys W5 hD rfl hinv hDK
    have hfit := hinv.fits
    rw [finRange_val n, runB_range _ _ hn0] at hfit
    have hF1 : F = true := hF'.out.symm.trans hfit
    have hbx := hinv.box
    rw [finRange_val n, runB_range _ _ hn0] at hbx
    exact hyes'.out hF1 _ D W5 (frame_mk _ _ (by kernel_rfl)) ((hBW.mono (by omega)).trans hinv.kept.1) (by omega) hDK hbx
  · rintro D cc pre W5 hD hpre hst hDK
    have hfit : fitsB p q n k mi ba = false := runB_prefix hpre hst.fails
    have hF0 : F = false := hF'.out.symm.trans hfit
    have hcode := hst.code
    subst hcode
    gi_wp2
    exact hno'.out hF0 _ D W5 (frame_mk _ _ (by kernel_rfl)) ((hBW.mono (by omega)).trans hst.kept.1) (by omega) hDK
end Go.Proofs.Ytnboppombhibbaa
