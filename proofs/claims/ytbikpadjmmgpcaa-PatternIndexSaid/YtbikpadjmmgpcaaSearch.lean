/- Aids for bench.search: frames with many unknown slots, codes taken out of a function, the plain run over phases. bench.search: what a round over the phases does. bench.search: one kind of moves, not barred: the phases are tried, and the move is kept if it fits. bench.search: a round over the four kinds of moves. bench.search: the sort of the moves of one number of cuts; the loop over the kinds as a whole. bench.search: the moves of one number of cuts are handed to the receiver. bench.search: a round of the outer loop. pattern: bench.search. -/
import Derived.Test.YtbikpadjmmgpcaaMv
import Derived.Test.YtbikpadjmmgpcaaP4Moire
import Derived.RangeFuncWrites
import Derived.LoopN
namespace Go.Proofs.Ytbikpadjmmgpcaa
open Go.RowKit Go.Shelf Go.Sort Go.Lib
set_option linter.unusedVariables false
set_option linter.unusedSimpArgs false
theorem frame_mk (F : (Nat → Value) → Array Value) (t : Array Value) (h : t = F (fun i => t.getD i undef)) : ∃ u, t = F u := ⟨_, h⟩
def loopsOf : Code → List Code
  | .loop c => [c]
  | .seq a b => loopsOf a ++ loopsOf b
  | .block _ c => loopsOf c
  | .scope c => loopsOf c
  | .cond _ a b => loopsOf a ++ loopsOf b
  | _ => []
def rangesOf : Code → List Code
  | .rangeFunc _ _ _ c => [c]
  | .seq a b => rangesOf a ++ rangesOf b
  | .block _ c => rangesOf c
  | .scope c => rangesOf c
  | .loop c => rangesOf c
  | .cond _ a b => rangesOf a ++ rangesOf b
  | _ => []
/-- The code that begins with a region. -/
def fromRegion (n : Nat) : Code → List Code
  | .region m o d => if m = n then [.region m o d] else []
  | .seq a b => match a with
    | .region m _ _ => if m = n then [.seq a b] else fromRegion n b
    | _ => fromRegion n a ++ fromRegion n b
  | .block _ c => fromRegion n c
  | .scope c => fromRegion n c
  | .loop c => fromRegion n c
  | .cond _ a b => fromRegion n a ++ fromRegion n b
  | _ => []
def seqL : Code → Code
  | .seq a _ => a
  | c => c
def seqR : Code → Code
  | .seq _ b => b
  | c => c
def stepB (T : Nat → Int) (st : Int × Bool) (j : Nat) : Int × Bool := (if j = 0 then T 0 else st.1, st.2 && (T j == (if j = 0 then T 0 else st.1)))
def runB (T : Nat → Int) (l : List Nat) : Int × Bool := l.foldl (stepB T) (0, true)
theorem runB_snoc (T : Nat → Int) (l : List Nat) (j : Nat) : runB T (l ++ [j]) = stepB T (runB T l) j := by unfold runB; rw [List.foldl_append]; rfl
theorem runB_range (T : Nat → Int) : ∀ n, 0 < n → runB T (List.range n) = (T 0, (List.range n).all fun j => T j == T 0) := by
  intro n
  induction n with
  | zero => intro h; omega
  | succ n ih =>
    intro _
    rw [List.range_succ, runB_snoc]
    rcases Nat.eq_zero_or_pos n with h | h
    · subst h
      simp [runB, stepB]
    · rw [ih h]
      unfold stepB
      rw [if_neg (by omega), List.all_append]
      simp
theorem runB_prefix {N : Nat} {T : Nat → Int} {pre : List (Fin N)} (hp : pre <+: List.finRange N) (h : (runB T (pre.map (·.1))).2 = false) : ((List.range N).all fun j => T j == T 0) = false := by
  obtain ⟨r, hr⟩ := hp
  have h1 : (pre.map (·.1)) ++ (r.map (·.1)) = List.range N := by
    rw [← finRange_val N, ← List.map_append, hr]
  have hlen : pre.length ≤ N := by
    have := congrArg List.length h1
    simp at this
    omega
  have h2 : pre.map (·.1) = List.range pre.length := by
    have h3 := congrArg (List.take pre.length) h1
    rw [List.take_left' (by simp), List.take_range, Nat.min_eq_left hlen] at h3
    exact h3
  have hpos : 0 < pre.length := by
    rcases Nat.eq_zero_or_pos pre.length with h0 | h0
    · have : pre = [] := List.eq_nil_of_length_eq_zero h0
      subst this
      simp [runB] at h
    · exact h0
  rw [h2, runB_range T _ hpos] at h
  simp only [List.all_eq_false] at h ⊢
  obtain ⟨x, hx, hne⟩ := h
  exact ⟨x, List.mem_range.2 (by have := List.mem_range.1 hx; omega), hne⟩
theorem KeepsFrom.of_below {B : Nat} {W W' : World} (h : Below W.heap.size W W') : KeepsFrom B W W' :=
  ⟨h.size, fun k o _ hk _ => (h.block k (Array.getElem?_eq_some_iff.1 hk).1).trans hk⟩
theorem Kept.of_below {n₀ : Nat} {Bs : List Nat} {W W' : World} (h : Below W.heap.size W W') (hn : n₀ ≤ W.heap.size) (hBs : ∀ B ∈ Bs, B < W.heap.size) : Kept n₀ Bs W W' :=
  ⟨h.mono hn, fun B hB => h.block B (hBs B hB)⟩
theorem Kept.of_grown {n₀ X : Nat} {Bs : List Nat} {W W' : World} (h : W.grownBy W' (some X)) (hn : n₀ ≤ X) (hn2 : n₀ ≤ W.heap.size) (hBs : ∀ B ∈ Bs, B < W.heap.size ∧ B ≠ X) : Kept n₀ Bs W W' :=
  ⟨(Below.refl n₀ W).grown h hn2 (fun k e => by cases e; exact hn), fun B hB => h.block B (hBs B hB).1 (fun e => by cases e; exact (hBs X hB).2 rfl)⟩
/-- A new block of four cells: its world under a name. -/
theorem wpIn_alloc4 {F : Fence} {n : Nat} {P : Program} {c : Code} {Q : Exit → Act → World → Prop} {a : Act} {W1 : World} {v0 v1 v2 v3 : Value} {t : TypeId}
    (h : ∀ W2, Below W1.heap.size W1 W2 → W2.heap[W1.heap.size]? = some (.cells #[v0, v1, v2, v3] t) → W2.heap.size = W1.heap.size + 1 → c.wpIn F n P Q a W2) : c.wpIn F n P Q a (W1.alloc (.cells #[v0, v1, v2, v3] t)) :=
  h _ (alc1 _ _) (alc_at _ _) (by simp)
theorem wp_alloc4 {P : Program} {c : Code} {Q : Exit → Act → World → Prop} {a : Act} {W1 : World} {v0 v1 v2 v3 : Value} {t : TypeId}
    (h : ∀ W2, Below W1.heap.size W1 W2 → W2.heap[W1.heap.size]? = some (.cells #[v0, v1, v2, v3] t) → W2.heap.size = W1.heap.size + 1 → c.wp P Q a W2) : c.wp P Q a (W1.alloc (.cells #[v0, v1, v2, v3] t)) :=
  h _ (alc1 _ _) (alc_at _ _) (by simp)
theorem turn_set {W : World} {n Y : Nat} {v0 v1 v2 v3 u : Value} {t : TypeId} (h : W.heap[Y]? = some (.cells #[v0, v1, v2, v3] t)) : ((W.drewN n).setCell ⟨Y, 1, none⟩ u).heap[Y]? = some (.cells #[v0, u, v2, v3] t) := by
  rw [heap_setAt (W := W.drewN n) h]; rfl
theorem set4 {W : World} {X : Nat} {v0 v1 v2 v3 u0 u1 u2 u3 : Value} {t : TypeId} (h : W.heap[X]? = some (.cells #[v0, v1, v2, v3] t)) : ((((W.setCell ⟨X, 0, none⟩ u0).setCell ⟨X, 1, none⟩ u1).setCell ⟨X, 2, none⟩ u2).setCell ⟨X, 3, none⟩ u3).heap[X]? = some (.cells #[u0, u1, u2, u3] t) := by
  have h1 := heap_setAt (i := 0) (u := u0) h
  have h2 := heap_setAt (i := 1) (u := u1) h1
  have h3 := heap_setAt (i := 2) (u := u2) h2
  have h4 := heap_setAt (i := 3) (u := u3) h3
  rw [h4]
  rfl
theorem grown_set4 {W : World} {X : Nat} {u0 u1 u2 u3 : Value} (hX : X < W.heap.size) : W.grownBy ((((W.setCell ⟨X, 0, none⟩ u0).setCell ⟨X, 1, none⟩ u1).setCell ⟨X, 2, none⟩ u2).setCell ⟨X, 3, none⟩ u3) (some X) :=
  ⟨rfl, rfl, rfl, by simp [World.setCell], fun k hk hne => by
    have hk' : k ≠ X := fun e => hne (by rw [e])
    exact (Below.heap_setCell _ _ _ _ hk').trans ((Below.heap_setCell _ _ _ _ hk').trans ((Below.heap_setCell _ _ _ _ hk').trans (Below.heap_setCell _ _ _ _ hk')))⟩
end Go.Proofs.Ytbikpadjmmgpcaa
namespace Go.Proofs.Ytbikpadjmmgpcaa
open Go.RowKit Go.Shelf Go.Sort Go.Lib
set_option linter.unusedVariables false
set_option linter.unusedSimpArgs false
attribute [local go_sem] Oper.semAt_some
attribute [local go_sem ↓] Go.wp_at_zero Go.wp_at_succ
noncomputable def sBody : Code := (loopsOf ((Try.f39).body.getD .skip)).getD 0 .skip
noncomputable def kBody : Code := (loopsOf sBody).getD 0 .skip
noncomputable def fBody : Code := (loopsOf sBody).getD 1 .skip
noncomputable def rBody : Code := (rangesOf kBody).getD 0 .skip
/-- What search has at hand while it tries the four kinds. -/
structure KEnv (p q : Prog) (b c B4 B5 B9 B11 B13 : Nat) (s o : Nat) (k : Nat) (W : World) : Prop where
  one : IsBench W b p
  two : IsBench W c q
  b4 : W.heap[B4]? = some (.cells #[.pointer (some ⟨b, 0, none⟩)] 72)
  b5 : W.heap[B5]? = some (.cells #[.pointer (some ⟨c, 0, none⟩)] 72)
  b9 : W.heap[B9]? = some (.cells #[.int .i64 (s : Int)] 3)
  b11 : W.heap[B11]? = some (.cells #[.int .i64 (o : Int)] 3)
  b13 : W.heap[B13]? = some (.cells #[.int .i64 (k : Int)] 3)
theorem KEnv.below {p q : Prog} {b c B4 B5 B9 B11 B13 s o k : Nat} {W W' : World} (h : KEnv p q b c B4 B5 B9 B11 B13 s o k W) (hb : Below W.heap.size W W') : KEnv p q b c B4 B5 B9 B11 B13 s o k W' :=
  ⟨h.one.below hb, h.two.below hb, (hb.block _ (Array.getElem?_eq_some_iff.1 h.b4).1).trans h.b4, (hb.block _ (Array.getElem?_eq_some_iff.1 h.b5).1).trans h.b5, (hb.block _ (Array.getElem?_eq_some_iff.1 h.b9).1).trans h.b9, (hb.block _ (Array.getElem?_eq_some_iff.1 h.b11).1).trans h.b11, (hb.block _ (Array.getElem?_eq_some_iff.1 h.b13).1).trans h.b13⟩
/-- Between two phases: the blocks Bs and all below X as they were; the move tried so far; all turns alike. -/
structure RInv (T : Nat → Int) (k : Int) (mi ba : Bool) (X : Nat) (Bs : List Nat) (W0 : World) (l : List Nat) (W : World) : Prop where
  kept : Kept X Bs W0 W
  size : W0.heap.size ≤ W.heap.size
  box : W.heap[X]? = some (.cells #[.int .i64 k, .int .i64 (runB T l).1, .bool mi, .bool ba] 54)
  fits : (runB T l).2 = true
structure RStop (T : Nat → Int) (X : Nat) (Bs : List Nat) (W0 : World) (l : List Nat) (cc : Code) (W : World) : Prop where
  kept : Kept X Bs W0 W
  size : W0.heap.size ≤ W.heap.size
  code : cc = .exit 3
  fails : (runB T l).2 = false
theorem move_cells {W : World} {X : Nat} {v0 v1 v2 v3 : Value} {t : TypeId} (h : W.heap[X]? = some (.cells #[v0, v1, v2, v3] t)) :
    W.cell? ⟨X, 0, none⟩ = some v0 ∧ W.cell? ⟨X, 1, none⟩ = some v1 ∧ W.cell? ⟨X, 2, none⟩ = some v2 ∧ W.cell? ⟨X, 3, none⟩ = some v3 :=
  ⟨cell_of_row W X 0 _ _ _ h, cell_of_row W X 1 _ _ _ h, cell_of_row W X 2 _ _ _ h, cell_of_row W X 3 _ _ _ h⟩
/-- What is known behind the store of the turn. -/
theorem after_turn {W W2 : World} {X Y : Nat} {v0 v1 v2 v3 y0 y1 y2 y3 : Value} {t : TypeId} (hb : Below W.heap.size W W2) (hY : W.heap.size ≤ Y) (hX : X < W.heap.size) (hx : W2.heap[X]? = some (.cells #[v0, v1, v2, v3] t)) (n : Nat) (u : Value) :
    Below W.heap.size W ((W2.drewN n).setCell ⟨Y, 1, none⟩ u) ∧ ((W2.drewN n).setCell ⟨Y, 1, none⟩ u).heap[X]? = some (.cells #[v0, v1, v2, v3] t) :=
  ⟨(below_drewN' hb n).setCell (p := ⟨Y, 1, none⟩) hY _, (Below.heap_setCell (W2.drewN n) ⟨Y, 1, none⟩ u X (by show X ≠ Y; omega)).trans hx⟩
theorem fin_same {T : Nat → Int} {k : Int} {mi ba : Bool} {X N0 : Nat} {Bs : List Nat} {W0 W W3 : World} {l l' : List Nat} {t1 : Int} (hI : RInv T k mi ba X Bs W0 l W) (hN : N0 ≤ W0.heap.size) (hX : X < N0) (hBs : ∀ B ∈ Bs, B < W0.heap.size ∧ B ≠ X) (hb : Below W.heap.size W W3)
    (hx : W3.heap[X]? = some (.cells #[.int .i64 k, .int .i64 t1, .bool mi, .bool ba] 54)) (hT : runB T l' = (t1, true)) : KeepsFrom N0 W W3 ∧ Kept X Bs W W3 ∧ RInv T k mi ba X Bs W0 l' W3 := by
  have hs := hI.size
  have hk : Kept X Bs W W3 := Kept.of_below hb (by omega) (fun B hB => by have := (hBs B hB).1; omega)
  exact ⟨KeepsFrom.of_below hb, hk, hI.kept.trans hk, Nat.le_trans hs hb.size, by rw [hT]; exact hx, by rw [hT]⟩
theorem fin_stop {T : Nat → Int} {k : Int} {mi ba : Bool} {X N0 : Nat} {Bs : List Nat} {W0 W W3 : World} {l l' : List Nat} {t1 : Int} (hI : RInv T k mi ba X Bs W0 l W) (hN : N0 ≤ W0.heap.size) (hX : X < N0) (hBs : ∀ B ∈ Bs, B < W0.heap.size ∧ B ≠ X) (hb : Below W.heap.size W W3)
    (hT : runB T l' = (t1, false)) : KeepsFrom N0 W W3 ∧ RStop T X Bs W0 l' (.exit 3) W3 := by
  have hs := hI.size
  have hk : Kept X Bs W W3 := Kept.of_below hb (by omega) (fun B hB => by have := (hBs B hB).1; omega)
  exact ⟨KeepsFrom.of_below hb, hI.kept.trans hk, Nat.le_trans hs hb.size, rfl, by rw [hT]⟩
theorem fin_first {T : Nat → Int} {k : Int} {mi ba : Bool} {X N0 : Nat} {Bs : List Nat} {W0 W W3 : World} {l l' : List Nat} {t1 : Int} {v0 v1 v2 v3 : Value} (hI : RInv T k mi ba X Bs W0 l W) (hN : N0 ≤ W0.heap.size) (hX : X < N0) (hBs : ∀ B ∈ Bs, B < W0.heap.size ∧ B ≠ X) (hb : Below W.heap.size W W3)
    (hx : W3.heap[X]? = some (.cells #[v0, v1, v2, v3] 54)) (hT : runB T l' = (t1, true)) :
    KeepsFrom N0 W ((((W3.setCell ⟨X, 0, none⟩ (.int .i64 k)).setCell ⟨X, 1, none⟩ (.int .i64 t1)).setCell ⟨X, 2, none⟩ (.bool mi)).setCell ⟨X, 3, none⟩ (.bool ba)) ∧
      Kept X Bs W ((((W3.setCell ⟨X, 0, none⟩ (.int .i64 k)).setCell ⟨X, 1, none⟩ (.int .i64 t1)).setCell ⟨X, 2, none⟩ (.bool mi)).setCell ⟨X, 3, none⟩ (.bool ba)) ∧
      RInv T k mi ba X Bs W0 l' ((((W3.setCell ⟨X, 0, none⟩ (.int .i64 k)).setCell ⟨X, 1, none⟩ (.int .i64 t1)).setCell ⟨X, 2, none⟩ (.bool mi)).setCell ⟨X, 3, none⟩ (.bool ba)) := by
  have hs := hI.size
  have hbz := hb.size
  have hxl := (Array.getElem?_eq_some_iff.1 hx).1
  have hg := grown_set4 (u0 := .int .i64 k) (u1 := .int .i64 t1) (u2 := .bool mi) (u3 := .bool ba) hxl
  have hk : Kept X Bs W W3 := Kept.of_below hb (by omega) (fun B hB => by have := (hBs B hB).1; omega)
  have hk2 := hk.trans (Kept.of_grown (Bs := Bs) hg (Nat.le_refl _) (by omega) (fun B hB => ⟨by have := (hBs B hB).1; omega, (hBs B hB).2⟩))
  exact ⟨(KeepsFrom.of_below hb).trans (KeepsFrom.of_grownBy hg fun j e => by cases e; exact hX), hk2, hI.kept.trans hk2, by have := hg.size; omega, by rw [hT]; exact set4 hx, by rw [hT]⟩
set_option maxRecDepth 1000000 in
set_option maxHeartbeats 2000000 in
theorem range_body (p q : Prog) (hp : BenchFacts p) (hq : BenchFacts q) (b c B4 B5 B9 B11 B13 s o k X N0 l : Nat) (mi ba : Bool) (n : Nat) (pre : List (Fin n)) (x : Fin n) (Bs : List Nat) (W0 W : World) (t : Array Value)
    (j : Nat) (hj : j = x.1) (hn : n ≤ 1152) (hk : k ≤ 1152) (hs : s ≤ 1000000) (ho : o ≤ 1000000)
    (ht : ∃ u : Nat → Value, t = #[(u 0), (u 1), (u 2), (u 3), .pointer (some ⟨B4, 0, none⟩), .pointer (some ⟨B5, 0, none⟩), (u 6), (u 7), (u 8), .pointer (some ⟨B9, 0, none⟩), (u 10), .pointer (some ⟨B11, 0, none⟩), (u 12), .pointer (some ⟨B13, 0, none⟩), (u 14), (u 15), .pointer (some ⟨X, 0, none⟩), .int .i64 (j : Nat), .int .i64 (phaseI p j), (u 19), (u 20), (u 21), (u 22), (u 23), (u 24), (u 25), (u 26), (u 27), (u 28), (u 29), (u 30), (u 31), (u 32), (u 33), (u 34), (u 35), (u 36), (u 37), (u 38), (u 39), (u 40), (u 41), (u 42), (u 43), (u 44), (u 45), (u 46), (u 47), (u 48), (u 49), (u 50), (u 51), (u 52), (u 53), (u 54), (u 55), (u 56), (u 57), (u 58), (u 59), (u 60), (u 61), (u 62), (u 63), (u 64), (u 65), (u 66), (u 67), (u 68), (u 69), (u 70), (u 71), (u 72), (u 73), (u 74), (u 75), (u 76), (u 77), (u 78), (u 79), (u 80), (u 81), (u 82), (u 83), (u 84), (u 85), (u 86), (u 87), (u 88), (u 89), (u 90), (u 91), (u 92), (u 93), (u 94), (u 95), (u 96), (u 97), (u 98), (u 99), (u 100), (u 101), (u 102), (u 103), (u 104), (u 105), (u 106), (u 107), (u 108), (u 109), (u 110), (u 111), (u 112), (u 113), (u 114), (u 115), (u 116), (u 117), (u 118), (u 119), (u 120), (u 121), (u 122), (u 123), (u 124), (u 125), (u 126), (u 127), (u 128), (u 129), (u 130), (u 131), (u 132), (u 133), (u 134), (u 135), (u 136), (u 137), (u 138), (u 139), (u 140), (u 141), (u 142), (u 143), (u 144), (u 145), (u 146), (u 147), (u 148), (u 149), (u 150), (u 151), (u 152), (u 153), (u 154), (u 155), (u 156), (u 157), (u 158), (u 159), (u 160), (u 161), (u 162), (u 163), (u 164), (u 165), (u 166), (u 167), (u 168), (u 169), (u 170), (u 171), (u 172)]) (hE : KEnv p q b c B4 B5 B9 B11 B13 s o k W) (hX : X < N0) (hN : N0 ≤ W0.heap.size) (hBs : ∀ B ∈ Bs, B < W0.heap.size ∧ B ≠ X)
    (h4 : B4 < X) (h5 : B5 < X) (h9 : B9 < X) (h11 : B11 < X) (h13 : B13 < X) (hT : ∀ i, turnAt p q k mi ba i = ((if mi then (o : Int) + phaseI p i else (s : Int) - phaseI p i) + phaseI q (if ba then (k : Int) - i else (k : Int) + i)) % (per p : Int))
    (hI : RInv (turnAt p q k mi ba) k mi ba X Bs W0 (pre.map (·.1)) W) :
    rBody.wpIn (Fence.wide.inRound l) (5 - 1 - 1) Try.prog (ownPostG N0 (Kept X Bs) (fun pre W => RInv (turnAt p q k mi ba) k mi ba X Bs W0 (pre.map (·.1)) W) (fun cc pre W => RStop (turnAt p q k mi ba) X Bs W0 (pre.map (·.1)) cc W) (pre ++ [x]) W) { tmps := t, defers := [] } W := by
  obtain ⟨u, rfl⟩ := ht
  conv => arg 4; whnf
  have hxn := x.2
  have hjn : j < n := by omega
  have hper := per_pos hp
  have hph := phaseI_bound hp j
  have e4 := cell0 hE.b4
  have e5 := cell0 hE.b5
  have e9 := cell0 hE.b9
  have e11 := cell0 hE.b11
  have e13 := cell0 hE.b13
  obtain ⟨x0, x1, x2, x3⟩ := move_cells hI.box
  obtain ⟨y, hy⟩ : ∃ y, phaseI p j = y := ⟨_, rfl⟩
  rw [hy] at hph ⊢
  generalize htx : (runB (turnAt p q k mi ba) (pre.map (·.1))).1 = tx at x1
  have hE' := Lib.hid hE
  have hI' := Lib.hid hI
  have hT' := Lib.hid hT
  have hper' := Lib.hid hper
  have hy' := Lib.hid hy
  have htx' := Lib.hid htx
  have hj' := Lib.hid hj
  clear hj htx hy hper hT hI hE
  have hq1 := hq.ros1
  have hp1 := hp.ros1
  obtain ⟨A, hA⟩ : ∃ A : Int, A = (if mi then (o : Int) + y else (s : Int) - y) := ⟨_, rfl⟩
  obtain ⟨D, hD⟩ : ∃ D : Int, D = (if ba then (k : Int) - j else (k : Int) + j) := ⟨_, rfl⟩
  have hTj := hT'.out j
  rw [hy'.out, ← hA, ← hD] at hTj
  have hAb : -1000096 ≤ A ∧ A ≤ 1000096 := by rw [hA]; split <;> omega
  have hDb : -1000000 ≤ D ∧ D ≤ 1000000 := by rw [hD]; split <;> omega
  have hz := phaseI_bound hq D
  have hphc : ∀ W, IsBench W c q → Calls Try.prog 35 #[.pointer (some ⟨c, 0, none⟩), .int .i64 D] W fun e w' => e = .returned (.int .i64 (phaseI q D)) ∧ ∃ n, w' = W.drewN n := fun W h => pf_phase c q D W h hq hDb.1 hDb.2
  generalize phaseI q D = z at hTj hz hphc
  have hmod : ∀ W : World, Calls Try.prog 34 #[.int .i64 (A + z), .int .i64 (per p)] W fun e w' => e = .returned (.int .i64 (turnAt p q k mi ba j)) ∧ W = w' := fun W => by
    have h := pf_pat_modulo (A + z) (per p) W (by have := hper'.out; omega) (by have := hper'.out; omega) (by unfold Mid; omega)
    rw [← hTj] at h
    exact h
  have i1 : IntKind.i64.wrap ((k : Int) + j) = (k : Int) + j := IntWalk.i64_in _ (by omega)
  have i2 : IntKind.i64.wrap ((s : Int) - y) = (s : Int) - y := IntWalk.i64_in _ (by omega)
  have i5 : IntKind.i64.wrap (A + z) = A + z := IntWalk.i64_in _ (by omega)
  clear hTj hT'
  have hTn := runB_snoc (turnAt p q k mi ba) (pre.map (·.1)) x.1
  have hmap : (pre ++ [x]).map (·.1) = pre.map (·.1) ++ [x.1] := by simp
  rw [← hmap, ← hj'.out] at hTn
  unfold stepB at hTn
  rw [htx'.out, show (runB (turnAt p q k mi ba) (pre.map (·.1))).2 = true from hI'.out.fits, Bool.true_and] at hTn
  clear hmap
  have hphc' := Lib.hid hphc
  have hmod' := Lib.hid hmod
  have hz' := Lib.hid hz
  have hTn' := Lib.hid hTn
  have hA' := Lib.hid hA
  have hD' := Lib.hid hD
  clear hD hA hTn hz hmod hphc
  cases mi <;> cases ba
  all_goals
    have hA := hA'.out
    have hD := hD'.out
    clear hA' hD'
    first | rw [if_pos rfl] at hA | rw [if_neg (by decide)] at hA
    first | rw [if_pos rfl] at hD | rw [if_neg (by decide)] at hD
    have hA' := Lib.hid hA
    have hD' := Lib.hid hD
    clear hD hA
    gi_wp2
    refine wpR_region_quiet_lit (by kernel_rfl) (by kernel_rfl) (by kernel_rfl) ?_
    repeat (go_big_quiet_step (fail))
    refine wpQuiet_nil ?_
    intro _ hw'
    obtain ⟨nq, hw''⟩ := hw'
    subst hw''
    have hE1 := hE'.out.below (below_drewN' (Below.refl _ W) nq)
    have hb1 := below_drewN' (Below.refl W.heap.size W) nq
    have hx1 : (W.drewN nq).heap[X]? = _ := hI'.out.box
    clear e4 e5 e9 e11 e13 x0 x1 x2 x3
    rw [htx'.out] at hx1
    generalize W.drewN nq = W1 at hE1 hb1 hx1 ⊢
    have e4 := cell0 hE1.b4
    have e5 := cell0 hE1.b5
    have e9 := cell0 hE1.b9
    have e11 := cell0 hE1.b11
    have e13 := cell0 hE1.b13
    obtain ⟨x0, x1, x2, x3⟩ := move_cells hx1
    have hE1' := Lib.hid hE1
    have hb1' := Lib.hid hb1
    have hx1' := Lib.hid hx1
    clear hx1 hb1 hE1
    gi_wp2
    rw [← hA'.out, ← hD'.out]
    refine wpIn_alloc4 ?_
    intro W2 hb2 hY2 hz2
    have hz1 := hb1'.out.size
    have hx2 := (hb2.block X (by have := (Array.getElem?_eq_some_iff.1 hx1'.out).1; omega)).trans hx1'.out
    have hE2 := hE1'.out.below hb2
    have hb02 : Below W.heap.size W W2 := hb1'.out.trans (hb2.mono hz1)
    obtain ⟨Y, hYd⟩ : ∃ Y, W1.heap.size = Y := ⟨_, rfl⟩
    rw [hYd] at hY2 hz1 hz2 ⊢
    clear e4 e5 e9 e11 e13 x0 x1 x2 x3 hE1' hb1' hx1' hb2
    have e4 := cell0 hE2.b4
    have e5 := cell0 hE2.b5
    obtain ⟨_, _, -, -, -, -, -, -, -, -, -, c9⟩ := hE2.one.cells
    replace c9 : W2.cell? ⟨b, 9, none⟩ = some (.int .i64 (per p)) := c9
    obtain ⟨y0, y1, y2, y3⟩ := move_cells hY2
    have yf := frozen0 hY2 1
    obtain ⟨x0, x1, x2, x3⟩ := move_cells hx2
    have f0 := frozen0 hx2 0
    have f1 := frozen0 hx2 1
    have f2 := frozen0 hx2 2
    have f3 := frozen0 hx2 3
    have hXl := (Array.getElem?_eq_some_iff.1 hI'.out.box).1
    have hXY : ¬ X = Y := by omega
    have hYX : ¬ Y = X := by omega
    have hE2' := Lib.hid hE2
    have hb02' := Lib.hid hb02
    have hx2' := Lib.hid hx2
    have hY2' := Lib.hid hY2
    have hYd' := Lib.hid hYd
    clear hYd hY2 hx2 hb02 hE2
    refine wpF_region_quiet_tail (lets_round l) 11 (by kernel_rfl) (by kernel_rfl) (by kernel_rfl) ?_
    simp only [List.take_succ_cons, List.take_zero, List.drop_succ_cons, List.drop_zero]
    repeat (go_big_quiet_step (first | (go_at_call 35; exact Calls.quiet_of (hphc'.out _ (hE2'.out.two.below (below_drewN' (Below.refl _ _) _)))) | (go_at_call 34; exact quiet_same' (hmod'.out _))))
    refine wpQuiet_nil ?_
    intro _ hw'
    obtain ⟨nq, hw''⟩ := hw'
    subst hw''
    obtain ⟨hb03, hx3⟩ := after_turn (y0 := undef) (y1 := undef) (y2 := undef) (y3 := undef) hb02'.out hz1 hXl hx2'.out nq (.int .i64 (turnAt p q k _ _ j))
    have hb03' := Lib.hid hb03
    have hx3' := Lib.hid hx3
    clear hx3 hb03
    by_cases h0 : j = 0
    · have hj0 : ((j : Int) == 0) = true := by simp [h0]
      have hTf := hTn'.out
      rw [if_pos h0, h0, beq_self_eq_true] at hTf
      rw [← h0] at hTf
      have h0' := Lib.hid h0
      have hTf' := Lib.hid hTf
      clear hTf h0
      gi_wp2
      exact fin_first hI'.out hN hX hBs hb03'.out hx3'.out hTf'.out
    · have hj0 : ((j : Int) == 0) = false := by simp [h0]
      have hTf := hTn'.out
      rw [if_neg h0] at hTf
      clear hTn'
      generalize turnAt p q k _ _ j = tj at hTf hb03' hx3' ⊢
      by_cases hTx : tj = tx
      · subst hTx
        rw [beq_self_eq_true] at hTf
        have hTf' := Lib.hid hTf
        clear hTf
        gi_wp2
        exact fin_same hI'.out hN hX hBs hb03'.out hx3'.out hTf'.out
      · have hTb : (tx == tj) = false := by simpa using fun h => hTx h.symm
        have hTb2 : (tj == tx) = false := by simpa using hTx
        rw [hTb2] at hTf
        have hTf' := Lib.hid hTf
        have hTx' := Lib.hid hTx
        clear hTx hTf
        gi_wp2
        exact fin_stop hI'.out hN hX hBs hb03'.out hTf'.out
end Go.Proofs.Ytbikpadjmmgpcaa
namespace Go.Proofs.Ytbikpadjmmgpcaa
open Go.RowKit Go.Shelf Go.Sort Go.Lib
set_option linter.unusedVariables false
set_option linter.unusedSimpArgs false
attribute [local go_sem] Oper.semAt_some
attribute [local go_sem ↓] Go.wp_at_zero Go.wp_at_succ
def mvAt (p q : Prog) (k : Nat) (mi ba : Bool) : Mv := ⟨k, turnAt p q k mi ba 0, mi, ba⟩
noncomputable def tBody : Code := (fromRegion 13 kBody).getD 0 .skip
noncomputable def tHead : Code := seqL tBody
noncomputable def tBlk : Code := seqR tBody
theorem RInv.from {β : Type} {T : Nat → Int} {k : Int} {mi ba : Bool} {X N0 : Nat} {Bs : List Nat} {W0 : World} (f : β → List Nat) (hX : X < N0) (hN : N0 ≤ W0.heap.size) (hBs : ∀ B ∈ Bs, B < N0) : OwnFrom N0 (fun s W => RInv T k mi ba X Bs W0 (f s) W) := by
  rintro s Y Z row ⟨h1, hs, h3, h4⟩ hg hrow
  refine ⟨h1.trans ⟨(Below.refl _ _).grown hg (by omega) fun k e => by have := (hrow k e).1; omega, fun B hB => hg.block B (by have := hBs B hB; omega) (fun e => by have := (hrow _ e.symm).1; have := hBs B hB; omega)⟩, Nat.le_trans hs hg.size, ?_, h4⟩
  exact (hg.block X (by omega) (fun e => by have := (hrow _ e.symm).1; omega)).trans h3
theorem RStop.from {β : Type} {T : Nat → Int} {X N0 : Nat} {Bs : List Nat} {W0 : World} (f : β → List Nat) (hX : X < N0) (hN : N0 ≤ W0.heap.size) (hBs : ∀ B ∈ Bs, B < N0) (cc : Code) : OwnFrom N0 (fun s W => RStop T X Bs W0 (f s) cc W) := by
  rintro s Y Z row ⟨h1, hs, h3, h4⟩ hg hrow
  exact ⟨h1.trans ⟨(Below.refl _ _).grown hg (by omega) fun k e => by have := (hrow k e).1; omega, fun B hB => hg.block B (by have := hBs B hB; omega) (fun e => by have := (hrow _ e.symm).1; have := hBs B hB; omega)⟩, Nat.le_trans hs hg.size, h3, h4⟩
set_option maxRecDepth 1000000 in
set_option maxHeartbeats 2000000 in
theorem kind_tail (p q : Prog) (hp : BenchFacts p) (hq : BenchFacts q) (b c B4 B5 B9 B11 B13 s o k X KB how g n : Nat) (iz : Int) (cb : Array Value) (st ov mi ba : Bool) (v : Value) (wr W : World) (ds : List Deferred) (t : Array Value)
    (hn : n ≤ 1152) (hn0 : 0 < n) (hk : k ≤ 1152) (hs : s ≤ 1000000) (ho : o ≤ 1000000)
    (ht : ∃ u : Nat → Value, t = #[(u 0), (u 1), .int .u8 how, .func (.func g) #[] cb, .pointer (some ⟨B4, 0, none⟩), .pointer (some ⟨B5, 0, none⟩), (u 6), (u 7), .int .i64 (n : Nat), .pointer (some ⟨B9, 0, none⟩), .bool st, .pointer (some ⟨B11, 0, none⟩), .bool ov, .pointer (some ⟨B13, 0, none⟩), v, (u 15), .pointer (some ⟨X, 0, none⟩), (u 17), (u 18), (u 19), (u 20), (u 21), (u 22), (u 23), (u 24), (u 25), (u 26), (u 27), (u 28), (u 29), (u 30), (u 31), (u 32), (u 33), (u 34), (u 35), (u 36), (u 37), (u 38), (u 39), (u 40), (u 41), (u 42), (u 43), (u 44), (u 45), (u 46), (u 47), (u 48), (u 49), (u 50), (u 51), (u 52), (u 53), (u 54), (u 55), (u 56), (u 57), (u 58), (u 59), (u 60), (u 61), (u 62), (u 63), .int .i64 (n : Nat), .int .i64 (k : Nat), (u 66), (u 67), (u 68), (u 69), (u 70), (u 71), (u 72), (u 73), (u 74), (u 75), .slice (some ⟨KB, 0, none⟩) 4 4, .int .i64 4, .int .i64 iz, (u 79), (u 80), (u 81), (u 82), (u 83), (u 84), (u 85), (u 86), (u 87), (u 88), (u 89), (u 90), (u 91), (u 92), (u 93), (u 94), (u 95), (u 96), (u 97), (u 98), (u 99), (u 100), (u 101), (u 102), (u 103), (u 104), (u 105), (u 106), (u 107), (u 108), (u 109), (u 110), (u 111), (u 112), (u 113), (u 114), (u 115), (u 116), (u 117), (u 118), (u 119), (u 120), (u 121), (u 122), (u 123), (u 124), (u 125), (u 126), (u 127), (u 128), (u 129), (u 130), (u 131), (u 132), (u 133), (u 134), (u 135), (u 136), (u 137), (u 138), (u 139), (u 140), (u 141), (u 142), (u 143), (u 144), (u 145), (u 146), (u 147), (u 148), (u 149), (u 150), (u 151), (u 152), (u 153), (u 154), (u 155), (u 156), (u 157), (u 158), (u 159), (u 160), (u 161), (u 162), (u 163), (u 164), (u 165), (u 166), (u 167), (u 168), (u 169), (u 170), (u 171), (u 172)]) (hE : KEnv p q b c B4 B5 B9 B11 B13 s o k wr) (hX : wr.heap.size = X) (hb : Below wr.heap.size wr W) (hW : W.heap.size = X + 1) (hbox : W.heap[X]? = some (.cells #[.int .i64 k, .int .i64 0, .bool mi, .bool ba] 54))
    (hT : ∀ i, turnAt p q k mi ba i = ((if mi then (o : Int) + phaseI p i else (s : Int) - phaseI p i) + phaseI q (if ba then (k : Int) - i else (k : Int) + i)) % (per p : Int))
    (F : Bool) (hF : fitsB p q n k mi ba = F) (Q : Exit → Act → World → Prop)
    (hyes : F = true → ∀ t' D W', (∃ u : Nat → Value, t' = #[(u 0), (u 1), .int .u8 how, .func (.func g) #[] cb, .pointer (some ⟨B4, 0, none⟩), .pointer (some ⟨B5, 0, none⟩), (u 6), (u 7), .int .i64 (n : Nat), .pointer (some ⟨B9, 0, none⟩), .bool st, .pointer (some ⟨B11, 0, none⟩), .bool ov, .pointer (some ⟨B13, 0, none⟩), v, (u 15), .pointer (some ⟨X, 0, none⟩), (u 17), (u 18), (u 19), (u 20), (u 21), (u 22), (u 23), (u 24), (u 25), (u 26), (u 27), (u 28), (u 29), (u 30), (u 31), (u 32), (u 33), (u 34), (u 35), (u 36), (u 37), (u 38), (u 39), (u 40), (u 41), (u 42), (u 43), (u 44), (u 45), (u 46), (u 47), (u 48), (u 49), (u 50), (u 51), (u 52), (u 53), (u 54), (u 55), (u 56), (u 57), (u 58), (u 59), (u 60), (u 61), (u 62), (u 63), .int .i64 (n : Nat), .int .i64 (k : Nat), (u 66), (u 67), (u 68), (u 69), (u 70), (u 71), (u 72), (u 73), (u 74), (u 75), .slice (some ⟨KB, 0, none⟩) 4 4, .int .i64 4, .int .i64 iz, (u 79), (u 80), (u 81), (u 82), (u 83), (u 84), (u 85), (u 86), (u 87), (u 88), (u 89), (u 90), (u 91), (u 92), (u 93), (u 94), (u 95), (u 96), (u 97), (u 98), (u 99), (u 100), (u 101), (u 102), (u 103), (u 104), (u 105), (u 106), (u 107), (u 108), (u 109), (u 110), (u 111), (u 112), (u 113), (u 114), (u 115), (u 116), (u 117), (u 118), (u 119), (u 120), (u 121), (u 122), (u 123), (u 124), (u 125), (u 126), (u 127), (u 128), (u 129), (u 130), (u 131), (u 132), (u 133), (u 134), (u 135), (u 136), (u 137), (u 138), (u 139), (u 140), (u 141), (u 142), (u 143), (u 144), (u 145), (u 146), (u 147), (u 148), (u 149), (u 150), (u 151), (u 152), (u 153), (u 154), (u 155), (u 156), (u 157), (u 158), (u 159), (u 160), (u 161), (u 162), (u 163), (u 164), (u 165), (u 166), (u 167), (u 168), (u 169), (u 170), (u 171), (u 172)]) → Below X W W' → X ≤ D → W'.heap[D]? = some (.deferred (some [])) → W'.heap[X]? = some (.cells #[.int .i64 k, .int .i64 (turnAt p q k mi ba 0), .bool mi, .bool ba] 54) → Q .normal { tmps := t', defers := { target := .collected D, args := #[] } :: ds } W')
    (hno : F = false → ∀ t' D W', (∃ u : Nat → Value, t' = #[(u 0), (u 1), .int .u8 how, .func (.func g) #[] cb, .pointer (some ⟨B4, 0, none⟩), .pointer (some ⟨B5, 0, none⟩), (u 6), (u 7), .int .i64 (n : Nat), .pointer (some ⟨B9, 0, none⟩), .bool st, .pointer (some ⟨B11, 0, none⟩), .bool ov, .pointer (some ⟨B13, 0, none⟩), v, (u 15), .pointer (some ⟨X, 0, none⟩), (u 17), (u 18), (u 19), (u 20), (u 21), (u 22), (u 23), (u 24), (u 25), (u 26), (u 27), (u 28), (u 29), (u 30), (u 31), (u 32), (u 33), (u 34), (u 35), (u 36), (u 37), (u 38), (u 39), (u 40), (u 41), (u 42), (u 43), (u 44), (u 45), (u 46), (u 47), (u 48), (u 49), (u 50), (u 51), (u 52), (u 53), (u 54), (u 55), (u 56), (u 57), (u 58), (u 59), (u 60), (u 61), (u 62), (u 63), .int .i64 (n : Nat), .int .i64 (k : Nat), (u 66), (u 67), (u 68), (u 69), (u 70), (u 71), (u 72), (u 73), (u 74), (u 75), .slice (some ⟨KB, 0, none⟩) 4 4, .int .i64 4, .int .i64 iz, (u 79), (u 80), (u 81), (u 82), (u 83), (u 84), (u 85), (u 86), (u 87), (u 88), (u 89), (u 90), (u 91), (u 92), (u 93), (u 94), (u 95), (u 96), (u 97), (u 98), (u 99), (u 100), (u 101), (u 102), (u 103), (u 104), (u 105), (u 106), (u 107), (u 108), (u 109), (u 110), (u 111), (u 112), (u 113), (u 114), (u 115), (u 116), (u 117), (u 118), (u 119), (u 120), (u 121), (u 122), (u 123), (u 124), (u 125), (u 126), (u 127), (u 128), (u 129), (u 130), (u 131), (u 132), (u 133), (u 134), (u 135), (u 136), (u 137), (u 138), (u 139), (u 140), (u 141), (u 142), (u 143), (u 144), (u 145), (u 146), (u 147), (u 148), (u 149), (u 150), (u 151), (u 152), (u 153), (u 154), (u 155), (u 156), (u 157), (u 158), (u 159), (u 160), (u 161), (u 162), (u 163), (u 164), (u 165), (u 166), (u 167), (u 168), (u 169), (u 170), (u 171), (u 172)]) → Below X W W' → X ≤ D → W'.heap[D]? = some (.deferred (some [])) → Q (.exit 3) { tmps := t', defers := { target := .collected D, args := #[] } :: ds } W')
    (K : Act → World → Prop) (hK : ∀ a w, tBlk.wp Try.prog Q a w → K a w) : tHead.wp Try.prog (Exit.then K Q) { tmps := t, defers := ds } W := by
  obtain ⟨u, rfl⟩ := ht
  conv => arg 2; whnf
  have hEW := hE.below hb
  have e4 := cell0 hEW.b4
  have hE' := Lib.hid hE
  have hEW' := Lib.hid hEW
  have hT' := Lib.hid hT
  have hF' := Lib.hid hF
  have hyes' := Lib.hid hyes
  have hno' := Lib.hid hno
  have hbox' := Lib.hid hbox
  have hX' := Lib.hid hX
  have hW' := Lib.hid hW
  clear hW hX hbox hno hyes hF hT hEW hE
  go_wp2_with (first | (go_at_call 61; ((with_reducible refine (pf_phases _ _ _ _).mono ?_); rintro e w' ⟨rfl, rfl⟩)))
  obtain ⟨W0, hW0, hsz, hBW, hB3, hB2, hB1⟩ := alc3_facts W (.cells #[.pointer (some ⟨b, 0, none⟩)] 72) (.cells #[.int .i64 0] 3) (.cells #[.int .i64 n] 3)
  rw [hW0]
  clear hW0
  have hX := hX'.out
  have hWz := hW'.out
  have hbW0 : Below wr.heap.size wr W0 := hb.trans (hBW.mono hb.size)
  have hwrz := hb.size
  conv => arg 2; whnf
  go_wp2
  generalize hL6 : W.heap.size = L6 at hB1 hB2 hB3 hsz hWz ⊢
  have hyield := phases1_yields p hp b 0 n wr W0 (L6 + 1 + 1) (L6 + 1) L6 X hE'.out.one (by omega) (by omega) (by omega) (by omega) (by omega) (by omega) (by omega) hbW0 (cell0 hB1) (cell0 hB2) (cell0 hB3)
  rw [show phAt p 0 n = phAt0 p n by funext i; simp [phAt, phAt0]] at hyield
  have hx0 : W0.heap[X]? = _ := (hBW.block X (by omega)).trans hbox'.out
  have hB1' := Lib.hid hB1
  have hB2' := Lib.hid hB2
  have hB3' := Lib.hid hB3
  have hx0' := Lib.hid hx0
  have hbW0' := Lib.hid hbW0
  have hyield' := Lib.hid hyield
  clear hyield hbW0 hx0 hB3 hB2 hB1
  refine (wpIn_wide (n := 5)).1 ?_
  refine wpIn_rangeFunc_ownG rfl (by omega) (gf := 79) (lb := #[.pointer (some ⟨L6 + 1 + 1, 0, none⟩), .pointer (some ⟨L6 + 1, 0, none⟩), .pointer (some ⟨L6, 0, none⟩)]) rfl trivial (enters_of Try.func79 (by kernel_rfl) rfl)
    hyield'.out Kept.trans (Kept.put (by omega) (by simp; omega)) (Below.refl _ _) (fun _ => rfl)
    (fun pre W => RInv (turnAt p q k mi ba) k mi ba X [L6 + 1 + 1, L6 + 1, L6] W0 (pre.map (·.1)) W)
    (fun cc pre W => RStop (turnAt p q k mi ba) X [L6 + 1 + 1, L6 + 1, L6] W0 (pre.map (·.1)) cc W)
    (RInv.from _ (by omega) (Nat.le_refl _) (by simp; omega)) (fun cc => RStop.from _ (by omega) (Nat.le_refl _) (by simp; omega) cc) ⟨Kept.refl _ _ _, Nat.le_refl _, hx0'.out, rfl⟩
    ?_ ?_ ?_ ?_ ?_
  rotate_left
  · intro l x W K hK
    dsimp only [phAt0]
    gi_wp2
    exact hK
  · rintro l pre x W5 hinv hlen
    have hE5 := hE'.out.below (hbW0'.out.trans (by rw [hX]; exact hinv.kept.1))
    have hlt : ∀ {B : Nat} {o : Obj}, wr.heap[B]? = some o → B < X := fun h => by have := (Array.getElem?_eq_some_iff.1 h).1; omega
    have h4 := hlt hE'.out.b4
    have h5 := hlt hE'.out.b5
    have h9 := hlt hE'.out.b9
    have h11 := hlt hE'.out.b11
    have h13 := hlt hE'.out.b13
    exact range_body p q hp hq b c B4 B5 B9 B11 B13 s o k X W0.heap.size l mi ba n pre x [L6 + 1 + 1, L6 + 1, L6] W0 W5 _ x.1 rfl hn hk hs ho (frame_mk _ _ (by kernel_rfl)) hE5 (by omega) (Nat.le_refl _) (by simp; omega) h4 h5 h9 h11 h13 hT'.out hinv
  · rintro D ys W5 hD rfl hinv hDK
    have hfit := hinv.fits
    rw [finRange_val n, runB_range _ _ hn0] at hfit
    have hF1 : F = true := hF'.out.symm.trans hfit
    have hbx := hinv.box
    rw [finRange_val n, runB_range _ _ hn0] at hbx
    exact hyes'.out hF1 _ D W5 (frame_mk _ _ (by kernel_rfl)) ((hBW.mono (by omega)).trans hinv.kept.1) (by omega) hDK hbx
  · rintro D cc pre W5 hD hpre hst hDK
    have hfit : fitsB p q n k mi ba = false := runB_prefix hpre hst.fails
    have hF0 : F = false := hF'.out.symm.trans hfit
    have hcode := hst.code
    subst hcode
    gi_wp2
    exact hno'.out hF0 _ D W5 (frame_mk _ _ (by kernel_rfl)) ((hBW.mono (by omega)).trans hst.kept.1) (by omega) hDK
end Go.Proofs.Ytbikpadjmmgpcaa
namespace Go.Proofs.Ytbikpadjmmgpcaa
open Go.RowKit Go.Shelf Go.Sort Go.Lib
set_option linter.unusedVariables false
set_option linter.unusedSimpArgs false
attribute [local go_sem] Oper.semAt_some
attribute [local go_sem ↓] Go.wp_at_zero Go.wp_at_succ
def barF (H1 H2 st ov mi ba : Bool) : Bool := ba && H2 || mi && H1 || mi && !ov || !mi && !st
theorem barB_eq (p q : Prog) (how : Nat) (mi ba : Bool) : barB p q how mi ba = barF (how % 2 == 0) (how / 2 % 2 == 0) (offB p q false) (offB p q true) mi ba := rfl
def kindCells (k : Nat) : Array Value := #[.int .i64 k, .int .i64 0, .bool false, .bool false, .int .i64 k, .int .i64 0, .bool false, .bool true, .int .i64 k, .int .i64 0, .bool true, .bool false, .int .i64 k, .int .i64 0, .bool true, .bool true]
def KSt (p q : Prog) (how g : Nat) (cb : Array Value) (st ov : Bool) (n k B4 B5 B9 B11 B13 KB : Nat) (W1 : World) (ds0 : List Deferred) (i : Nat) (a : Act) (wr : World) : Prop :=
  ∃ (t : Array Value) (ds' : List Deferred) (v : Value) (iz : Int), a = { tmps := t, defers := ds' ++ ds0 } ∧ iz = i ∧ (∃ u : Nat → Value, t = #[(u 0), (u 1), .int .u8 how, .func (.func g) #[] cb, .pointer (some ⟨B4, 0, none⟩), .pointer (some ⟨B5, 0, none⟩), (u 6), (u 7), .int .i64 (n : Nat), .pointer (some ⟨B9, 0, none⟩), .bool st, .pointer (some ⟨B11, 0, none⟩), .bool ov, .pointer (some ⟨B13, 0, none⟩), v, (u 15), (u 16), (u 17), (u 18), (u 19), (u 20), (u 21), (u 22), (u 23), (u 24), (u 25), (u 26), (u 27), (u 28), (u 29), (u 30), (u 31), (u 32), (u 33), (u 34), (u 35), (u 36), (u 37), (u 38), (u 39), (u 40), (u 41), (u 42), (u 43), (u 44), (u 45), (u 46), (u 47), (u 48), (u 49), (u 50), (u 51), (u 52), (u 53), (u 54), (u 55), (u 56), (u 57), (u 58), (u 59), (u 60), (u 61), (u 62), (u 63), .int .i64 (n : Nat), .int .i64 (k : Nat), (u 66), (u 67), (u 68), (u 69), (u 70), (u 71), (u 72), (u 73), (u 74), (u 75), .slice (some ⟨KB, 0, none⟩) 4 4, .int .i64 4, .int .i64 iz, (u 79), (u 80), (u 81), (u 82), (u 83), (u 84), (u 85), (u 86), (u 87), (u 88), (u 89), (u 90), (u 91), (u 92), (u 93), (u 94), (u 95), (u 96), (u 97), (u 98), (u 99), (u 100), (u 101), (u 102), (u 103), (u 104), (u 105), (u 106), (u 107), (u 108), (u 109), (u 110), (u 111), (u 112), (u 113), (u 114), (u 115), (u 116), (u 117), (u 118), (u 119), (u 120), (u 121), (u 122), (u 123), (u 124), (u 125), (u 126), (u 127), (u 128), (u 129), (u 130), (u 131), (u 132), (u 133), (u 134), (u 135), (u 136), (u 137), (u 138), (u 139), (u 140), (u 141), (u 142), (u 143), (u 144), (u 145), (u 146), (u 147), (u 148), (u 149), (u 150), (u 151), (u 152), (u 153), (u 154), (u 155), (u 156), (u 157), (u 158), (u 159), (u 160), (u 161), (u 162), (u 163), (u 164), (u 165), (u 166), (u 167), (u 168), (u 169), (u 170), (u 171), (u 172)]) ∧ Below W1.heap.size W1 wr ∧ Marks W1.heap.size wr ds' ∧
    wr.ownsRow W1.heap.size 54 4 v (kindsMv p q how n k i).length (mvCells (kindsMv p q how n k i))
theorem kinds_none {p q : Prog} {how n k i : Nat} (h : barB p q how (kindAt i).1 (kindAt i).2 = true) : kindsMv p q how n k (i + 1) = kindsMv p q how n k i := by
  rw [kindsMv_succ]; unfold oneMv; rw [if_pos h]; simp
theorem kinds_bad {p q : Prog} {how n k i : Nat} (h : barB p q how (kindAt i).1 (kindAt i).2 = false) (h2 : fitsB p q n k (kindAt i).1 (kindAt i).2 = false) : kindsMv p q how n k (i + 1) = kindsMv p q how n k i := by
  rw [kindsMv_succ]; unfold oneMv; rw [if_neg (by simp [h]), if_neg (by simp [h2])]; simp
theorem kinds_good {p q : Prog} {how n k i : Nat} (h : barB p q how (kindAt i).1 (kindAt i).2 = false) (h2 : fitsB p q n k (kindAt i).1 (kindAt i).2 = true) : kindsMv p q how n k (i + 1) = kindsMv p q how n k i ++ [mvAt p q k (kindAt i).1 (kindAt i).2] := by
  rw [kindsMv_succ]; unfold oneMv; rw [if_neg (by simp [h]), if_pos h2]; rfl
theorem Marks.next {B : Nat} {w w' : World} {ds : List Deferred} (h : Marks B w ds) (hb : Below w.heap.size w w') : Marks B w' ds :=
  h.keep fun D _ hD => (hb.block D (Array.getElem?_eq_some_iff.1 hD).1).trans hD
theorem Marks.lt {B : Nat} {w : World} : ∀ {ds : List Deferred}, Marks B w ds → ∀ d ∈ ds, ∃ D, d = { target := .collected D, args := #[] } ∧ D < w.heap.size
  | [], _, _, h => by cases h
  | d :: ds, ⟨⟨D, hd, hB, hD, hne⟩, hr⟩, d', h => by
    rcases List.mem_cons.1 h with rfl | h
    · exact ⟨D, hd, (Array.getElem?_eq_some_iff.1 hD).1⟩
    · exact Marks.lt hr d' h
theorem Marks.cons {B X : Nat} {w w' : World} {ds : List Deferred} (h : Marks B w' ds) (hlt : ∀ d ∈ ds, ∃ D, d = { target := .collected D, args := #[] } ∧ D < X) {D : Nat} (hD : X ≤ D) (hB : B ≤ D) (hh : w'.heap[D]? = some (.deferred (some []))) :
    Marks B w' ({ target := .collected D, args := #[] } :: ds) :=
  ⟨⟨D, rfl, hB, hh, fun d' hd' e => by
    obtain ⟨D', h1, h2⟩ := hlt d' hd'
    rw [h1] at e
    injection e with e1
    injection e1 with e1
    omega⟩, h⟩
theorem marks_app {B X : Nat} {wr W' W3 : World} {ds' : List Deferred} {v : Value} {e size n : Nat} {xs : List Value} {o : Obj} (hm : Marks B wr ds') (hX : wr.heap.size = X) (hb : Below X wr W') (hrow : W'.ownsRow B e size v n xs) {D : Nat} (hD : X ≤ D) (hBX : B ≤ X)
    (hDK : W'.heap[D]? = some (.deferred (some []))) (hg : (W'.alloc o).grownBy W3 v.ownBlock) : Marks B W3 ({ target := .collected D, args := #[] } :: ds') := by
  have key : ∀ D', W'.heap[D']? = some (Obj.deferred (some [])) → W3.heap[D']? = some (Obj.deferred (some [])) := fun D' h => by
    have hlt := (Array.getElem?_eq_some_iff.1 h).1
    exact (hg.block D' (by simp; omega) (own_ne hrow h)).trans ((Below.heap_alloc _ _ _ hlt).trans h)
  refine Marks.cons (X := X) (w := wr) (hm.keep fun D' _ h => key D' ((hb.block D' (by have := (Array.getElem?_eq_some_iff.1 h).1; omega)).trans h)) (fun d hd => ?_) hD (by omega) (key D hDK)
  obtain ⟨D', h1, h2⟩ := hm.lt d hd
  exact ⟨D', h1, by omega⟩
theorem mvCells_snoc (L : List Mv) (x : Mv) : mvCells (L ++ [x]) = mvCells L ++ x.enc := by
  unfold mvCells; rw [List.flatMap_append]; simp
theorem new4 (W : World) (x : Mv) (e : TypeId) : ∀ (j : Nat) (u : Value), x.enc[j]? = some u → (W.alloc (.cells #[.int .i64 x.cuts, .int .i64 x.turn, .bool x.mirror, .bool x.back] e)).cell? ((⟨W.heap.size, 0, none⟩ : Addr).add j) = some u := by
  intro j u hu
  have hj : j < 4 := (List.getElem?_eq_some_iff.1 hu).1
  have hadd : (⟨W.heap.size, 0, none⟩ : Addr).add j = ⟨W.heap.size, j, none⟩ := by unfold Addr.add; split <;> simp_all
  rw [hadd, World.cell?_alloc_at _ _ _ _ rfl]
  match j, hj with
  | 0, _ => simpa [Mv.enc] using hu
  | 1, _ => simpa [Mv.enc] using hu
  | 2, _ => simpa [Mv.enc] using hu
  | 3, _ => simpa [Mv.enc] using hu
theorem enc_one (x : Mv) : ∀ u ∈ x.enc, u.oneCell' = true := by
  intro u hu
  simp [Mv.enc] at hu
  rcases hu with rfl | rfl | rfl | rfl <;> rfl
theorem mvInfo : (Try.prog.info? 54).map (fun i => (i.zero, i.size, i.bytes)) = some (some (.agg #[.int .i64 0, .int .i64 0, .bool false, .bool false]), 4, 24) := by kernel_rfl
set_option maxRecDepth 1000000 in
set_option maxHeartbeats 2000000 in
theorem kind_at0 (p q : Prog) (hp : BenchFacts p) (hq : BenchFacts q) (b c B4 B5 B9 B11 B13 s o k KB how g n : Nat) (cb : Array Value) (st ov H1 H2 : Bool) (W1 wr : World) (ds0 : List Deferred) (a : Act)
    (hn : n ≤ 1152) (hn0 : 0 < n) (hk : k ≤ 1152) (hs : s ≤ 1000000) (ho : o ≤ 1000000) (hs1 : s = offV p q false) (ho1 : o = offV p q true) (hst : st = offB p q false) (hov : ov = offB p q true)
    (r1 r2 : Int) (hr1 : bits .and .u8 (how : Int) 1 = r1) (hr2 : bits .and .u8 (how : Int) 2 = r2) (hH1 : (r1 == 0) = H1) (hH2 : (r2 == 0) = H2) (kH1 : (how % 2 == 0) = H1) (kH2 : (how / 2 % 2 == 0) = H2)
    (hE1 : KEnv p q b c B4 B5 B9 B11 B13 s o k W1) (hKB : W1.heap[KB]? = some (.cells (kindCells k) 54)) (h : KSt p q how g cb st ov n k B4 B5 B9 B11 B13 KB W1 ds0 0 a wr) (Q : Exit → Act → World → Prop)
    (hnext : ∀ a' w', KSt p q how g cb st ov n k B4 B5 B9 B11 B13 KB W1 ds0 1 a' w' → Q .normal a' w') : kBody.wp Try.prog Q a wr := by
  obtain ⟨t, ds', v, iz, rfl, hiz, ⟨u, rfl⟩, hb, hm, hrow⟩ := h
  obtain rfl : iz = 0 := hiz
  conv => arg 2; whnf
  have hEr := hE1.below hb
  have hkb := (hb.block KB (Array.getElem?_eq_some_iff.1 hKB).1).trans hKB
  have c0 : wr.cell? ⟨KB, 0 + 0, none⟩ = some (.int .i64 k) := cell_of_row wr KB _ _ _ _ hkb
  have c1 : wr.cell? ⟨KB, 0 + 1, none⟩ = some (.int .i64 0) := cell_of_row wr KB _ _ _ _ hkb
  have c2 : wr.cell? ⟨KB, 0 + 2, none⟩ = some (.bool false) := cell_of_row wr KB _ _ _ _ hkb
  have c3 : wr.cell? ⟨KB, 0 + 3, none⟩ = some (.bool false) := cell_of_row wr KB _ _ _ _ hkb
  simp only [Nat.reduceAdd] at c0 c1 c2 c3
  have hE1' := Lib.hid hE1
  have hKB' := Lib.hid hKB
  have hb' := Lib.hid hb
  have hm' := Lib.hid hm
  have hrow' := Lib.hid hrow
  have hEr' := Lib.hid hEr
  have hkb' := Lib.hid hkb
  have hs1' := Lib.hid hs1
  have ho1' := Lib.hid ho1
  have hst' := Lib.hid hst
  have hov' := Lib.hid hov
  have hnext' := Lib.hid hnext
  have hr1' := Lib.hid hr1
  have hr2' := Lib.hid hr2
  have hH1' := Lib.hid hH1
  have hH2' := Lib.hid hH2
  clear hH2 hH1 hr2 hr1 hnext hov hst ho1 hs1 hkb hEr hrow hm hb hKB hE1
  go_upto_region 12 with (fail)
  refine wp_alloc4 ?_
  intro W2 hb2 hX2 hz2
  clear c0 c1 c2 c3
  obtain ⟨x0, x1, x2, x3⟩ := move_cells hX2
  have hr1 := hr1'.out
  have hr2 := hr2'.out
  obtain ⟨X, hX⟩ : ∃ X, wr.heap.size = X := ⟨_, rfl⟩
  rw [hX] at hX2 hz2 x0 x1 x2 x3 ⊢
  obtain ⟨BF, hBF⟩ : ∃ BF, barF H1 H2 st ov false false = BF := ⟨_, rfl⟩
  have hbar : barB p q how false false = BF := by rw [barB_eq, kH1, kH2, ← hst'.out, ← hov'.out]; exact hBF
  have hbwW : Below W1.heap.size W1 W2 := hb'.out.trans (hb2.mono hb'.out.size)
  have hm2 := hm'.out.next hb2
  have hrow2 := own_below hrow'.out hb2
  have hbar' := Lib.hid hbar
  have kH1' := Lib.hid kH1
  have kH2' := Lib.hid kH2
  have hX' := Lib.hid hX
  have hX2' := Lib.hid hX2
  have hb2' := Lib.hid hb2
  have hz2' := Lib.hid hz2
  have hbwW' := Lib.hid hbwW
  have hm2' := Lib.hid hm2
  have hrow2' := Lib.hid hrow2
  clear hrow2 hm2 hbwW hz2 hb2 hX2 hX kH2 kH1 hbar
  cases BF with
  | true =>
    have hsame := kinds_none (n := n) (k := k) (i := 0) hbar'.out
    have hlast : ∀ (iz' : Int) t, iz' = 1 → (∃ u : Nat → Value, t = #[(u 0), (u 1), .int .u8 how, .func (.func g) #[] cb, .pointer (some ⟨B4, 0, none⟩), .pointer (some ⟨B5, 0, none⟩), (u 6), (u 7), .int .i64 (n : Nat), .pointer (some ⟨B9, 0, none⟩), .bool st, .pointer (some ⟨B11, 0, none⟩), .bool ov, .pointer (some ⟨B13, 0, none⟩), v, (u 15), (u 16), (u 17), (u 18), (u 19), (u 20), (u 21), (u 22), (u 23), (u 24), (u 25), (u 26), (u 27), (u 28), (u 29), (u 30), (u 31), (u 32), (u 33), (u 34), (u 35), (u 36), (u 37), (u 38), (u 39), (u 40), (u 41), (u 42), (u 43), (u 44), (u 45), (u 46), (u 47), (u 48), (u 49), (u 50), (u 51), (u 52), (u 53), (u 54), (u 55), (u 56), (u 57), (u 58), (u 59), (u 60), (u 61), (u 62), (u 63), .int .i64 (n : Nat), .int .i64 (k : Nat), (u 66), (u 67), (u 68), (u 69), (u 70), (u 71), (u 72), (u 73), (u 74), (u 75), .slice (some ⟨KB, 0, none⟩) 4 4, .int .i64 4, .int .i64 iz', (u 79), (u 80), (u 81), (u 82), (u 83), (u 84), (u 85), (u 86), (u 87), (u 88), (u 89), (u 90), (u 91), (u 92), (u 93), (u 94), (u 95), (u 96), (u 97), (u 98), (u 99), (u 100), (u 101), (u 102), (u 103), (u 104), (u 105), (u 106), (u 107), (u 108), (u 109), (u 110), (u 111), (u 112), (u 113), (u 114), (u 115), (u 116), (u 117), (u 118), (u 119), (u 120), (u 121), (u 122), (u 123), (u 124), (u 125), (u 126), (u 127), (u 128), (u 129), (u 130), (u 131), (u 132), (u 133), (u 134), (u 135), (u 136), (u 137), (u 138), (u 139), (u 140), (u 141), (u 142), (u 143), (u 144), (u 145), (u 146), (u 147), (u 148), (u 149), (u 150), (u 151), (u 152), (u 153), (u 154), (u 155), (u 156), (u 157), (u 158), (u 159), (u 160), (u 161), (u 162), (u 163), (u 164), (u 165), (u 166), (u 167), (u 168), (u 169), (u 170), (u 171), (u 172)]) → KSt p q how g cb st ov n k B4 B5 B9 B11 B13 KB W1 ds0 1 { tmps := t, defers := ds' ++ ds0 } W2 := fun iz' t h1 h2 =>
      ⟨t, ds', v, iz', rfl, h1, h2, hbwW'.out, hm2'.out, by have e : kindsMv p q how n k 1 = kindsMv p q how n k 0 := hsame; rw [e]; exact hrow2'.out⟩
    have hsame' := Lib.hid hsame
    have hlast' := Lib.hid hlast
    clear hlast hsame
    cases st <;> first | (exfalso; simp [barF] at hBF; done) | skip
    all_goals
      have hH1 := hH1'.out
      have hH2 := hH2'.out
      go_wp2
      exact hnext'.out _ _ (hlast'.out _ _ rfl (frame_mk _ _ (by kernel_rfl)))
  | false =>
    cases st <;> first | (exfalso; simp [barF] at hBF; done) | skip
    all_goals
      have hH1 := hH1'.out
      have hH2 := hH2'.out
      go_upto_region 13 with (fail)
      obtain ⟨F, hF⟩ : ∃ F, fitsB p q n k false false = F := ⟨_, rfl⟩
      have hHr := hX'.out
      refine kind_tail p q hp hq b c B4 B5 B9 B11 B13 s o k X KB how g n 0 cb true ov false false v wr W2 (ds' ++ ds0) _ hn hn0 hk hs ho (frame_mk _ _ (by kernel_rfl)) hEr'.out hX'.out hb2'.out hz2'.out hX2'.out (fun i => by rw [hs1'.out, ho1'.out]; rfl) F hF _ ?_ ?_ _ (by assumption)
      · intro hF1 t' D W3 hu hbX hD hDK hbx
        obtain ⟨u', rfl⟩ := hu
        have hgood := kinds_good (n := n) (k := k) (i := 0) hbar'.out (hF.trans hF1)
        have hle := kindsMv_le p q how n k 0
        have hb3 := (hb2'.out.mono (Nat.le_refl _)).trans (by rw [hHr]; exact hbX)
        have hrow3 := own_below hrow'.out hb3
        have hbw3 := hb'.out.trans (hb3.mono hb'.out.size)
        have hbase : W1.heap.size ≤ X := by rw [← hHr]; exact hb'.out.size
        have hb3z := hb3.size
        obtain ⟨mi, hmi, hz0, hz1, hzb⟩ := info_parts mvInfo
        obtain ⟨x0, x1, x2, x3⟩ := move_cells hbx
        have hnew := new4 W3 (mvAt p q k false false) 54
        have hen := enc_one (mvAt p q k false false)
        have hmks := fun (o : Obj) (W4 : World) (hg : (W3.alloc o).grownBy W4 v.ownBlock) => marks_app hm'.out hHr (by rw [← hHr]; exact hb3) hrow3 hD hbase hDK hg
        have hrl := hrow3.lt
        have hmv : (mvAt p q k false false).enc = [.int .i64 k, .int .i64 (turnAt p q k false false 0), .bool false, .bool false] := rfl
        rw [hmv] at hnew hen
        have hcat : mvCells (kindsMv p q how n k 1) = mvCells (kindsMv p q how n k 0) ++ [.int .i64 k, .int .i64 (turnAt p q k false false 0), .bool false, .bool false] := by
          have e : kindsMv p q how n k 1 = _ := hgood
          rw [e, mvCells_snoc]; rfl
        have hlen4 : (kindsMv p q how n k 1).length = (kindsMv p q how n k 0).length + 1 := by
          have e : kindsMv p q how n k 1 = _ := hgood
          rw [e]; simp
        have hgood' := Lib.hid hgood
        have hle' := Lib.hid hle
        have hb3' := Lib.hid hb3
        have hrow3' := Lib.hid hrow3
        have hbw3' := Lib.hid hbw3
        have hbx' := Lib.hid hbx
        have hDK' := Lib.hid hDK
        have hnew' := Lib.hid hnew
        have hen' := Lib.hid hen
        have hmks' := Lib.hid hmks
        have hz0' := Lib.hid hz0
        have hz1' := Lib.hid hz1
        have hzb' := Lib.hid hzb
        have hrl' := Lib.hid hrl
        have hmv' := Lib.hid hmv
        have hcat' := Lib.hid hcat
        have hlen4' := Lib.hid hlen4
        clear hlen4 hcat hmv hrl hzb hz1 hz0 hmks hen hnew hDK hbx hbw3 hrow3 hb3 hle hgood
        go_wp2_with (first | (at_builtin; go_must (refine wpList_append_own _ rfl _ _ 50 rfl W1.heap.size 54 mi _ 4 24 Try.underlying50 hmi hz0'.out hz1'.out hzb'.out rfl (by decide) v _ _ rfl (hrow3'.out.alloc _) ⟨W3.heap.size, 0, none⟩ 1 1 [.int .i64 k, .int .i64 (turnAt p q k false false 0), .bool false, .bool false] rfl rfl ?_ ?_ ?_ ?_ ?_ ?_)))
        · exact hnew'.out
        · exact hen'.out
        · have := hle'.out; unfold maxLen; omega
        · have := hle'.out; omega
        · have := hb3z; simp; omega
        · intro v4 W4 hown4 hg4 _
          have hmk4 := hmks'.out _ W4 hg4
          have hb4 : Below W1.heap.size W1 W4 := (hbw3'.out.alloc (by omega) _).grown hg4 (by simp; omega) (fun k e => (hrl'.out k e).1)
          rw [← hlen4'.out, ← hcat'.out] at hown4
          have hown4' := Lib.hid hown4
          have hmk4' := Lib.hid hmk4
          have hb4' := Lib.hid hb4
          have hg4' := Lib.hid hg4
          clear hg4 hb4 hmk4 hown4
          go_wp2
          exact hnext'.out _ _ ⟨_, _ :: ds', v4, 1, rfl, rfl, frame_mk _ _ (by kernel_rfl), hb4'.out, hmk4'.out, hown4'.out⟩
      · intro hF0 t' D W3 hu hbX hD hDK
        obtain ⟨u', rfl⟩ := hu
        have hsame := kinds_bad (n := n) (k := k) (i := 0) hbar'.out (hF.trans hF0)
        have hb3 := (hb2'.out.mono (Nat.le_refl _)).trans (by rw [hHr]; exact hbX)
        have hrow3 := own_below hrow'.out hb3
        have hbw3 := hb'.out.trans (hb3.mono hb'.out.size)
        have hbase : W1.heap.size ≤ X := by rw [← hHr]; exact hb'.out.size
        have hmk3 : Marks W1.heap.size W3 ({ target := .collected D, args := #[] } :: ds') := Marks.cons (X := X) (w := wr) (hm'.out.next hb3) (fun d hd => by obtain ⟨D', h1, h2⟩ := hm'.out.lt d hd; exact ⟨D', h1, by omega⟩) hD (by omega) hDK
        have he : kindsMv p q how n k 1 = kindsMv p q how n k 0 := hsame
        rw [← he] at hrow3
        have hsame' := Lib.hid hsame
        have hb3' := Lib.hid hb3
        have hrow3' := Lib.hid hrow3
        have hbw3' := Lib.hid hbw3
        have hDK' := Lib.hid hDK
        have hmk3' := Lib.hid hmk3
        have he' := Lib.hid he
        clear he hmk3 hDK hbw3 hrow3 hb3 hsame
        go_wp2
        exact hnext'.out _ _ ⟨_, _ :: ds', v, 1, rfl, rfl, frame_mk _ _ (by kernel_rfl), hbw3'.out, hmk3'.out, hrow3'.out⟩
set_option maxRecDepth 1000000 in
set_option maxHeartbeats 2000000 in
theorem kind_at1 (p q : Prog) (hp : BenchFacts p) (hq : BenchFacts q) (b c B4 B5 B9 B11 B13 s o k KB how g n : Nat) (cb : Array Value) (st ov H1 H2 : Bool) (W1 wr : World) (ds0 : List Deferred) (a : Act)
    (hn : n ≤ 1152) (hn0 : 0 < n) (hk : k ≤ 1152) (hs : s ≤ 1000000) (ho : o ≤ 1000000) (hs1 : s = offV p q false) (ho1 : o = offV p q true) (hst : st = offB p q false) (hov : ov = offB p q true)
    (r1 r2 : Int) (hr1 : bits .and .u8 (how : Int) 1 = r1) (hr2 : bits .and .u8 (how : Int) 2 = r2) (hH1 : (r1 == 0) = H1) (hH2 : (r2 == 0) = H2) (kH1 : (how % 2 == 0) = H1) (kH2 : (how / 2 % 2 == 0) = H2)
    (hE1 : KEnv p q b c B4 B5 B9 B11 B13 s o k W1) (hKB : W1.heap[KB]? = some (.cells (kindCells k) 54)) (h : KSt p q how g cb st ov n k B4 B5 B9 B11 B13 KB W1 ds0 1 a wr) (Q : Exit → Act → World → Prop)
    (hnext : ∀ a' w', KSt p q how g cb st ov n k B4 B5 B9 B11 B13 KB W1 ds0 2 a' w' → Q .normal a' w') : kBody.wp Try.prog Q a wr := by
  obtain ⟨t, ds', v, iz, rfl, hiz, ⟨u, rfl⟩, hb, hm, hrow⟩ := h
  obtain rfl : iz = 1 := hiz
  conv => arg 2; whnf
  have hEr := hE1.below hb
  have hkb := (hb.block KB (Array.getElem?_eq_some_iff.1 hKB).1).trans hKB
  have c0 : wr.cell? ⟨KB, 4 + 0, none⟩ = some (.int .i64 k) := cell_of_row wr KB _ _ _ _ hkb
  have c1 : wr.cell? ⟨KB, 4 + 1, none⟩ = some (.int .i64 0) := cell_of_row wr KB _ _ _ _ hkb
  have c2 : wr.cell? ⟨KB, 4 + 2, none⟩ = some (.bool false) := cell_of_row wr KB _ _ _ _ hkb
  have c3 : wr.cell? ⟨KB, 4 + 3, none⟩ = some (.bool true) := cell_of_row wr KB _ _ _ _ hkb
  simp only [Nat.reduceAdd] at c0 c1 c2 c3
  have hE1' := Lib.hid hE1
  have hKB' := Lib.hid hKB
  have hb' := Lib.hid hb
  have hm' := Lib.hid hm
  have hrow' := Lib.hid hrow
  have hEr' := Lib.hid hEr
  have hkb' := Lib.hid hkb
  have hs1' := Lib.hid hs1
  have ho1' := Lib.hid ho1
  have hst' := Lib.hid hst
  have hov' := Lib.hid hov
  have hnext' := Lib.hid hnext
  have hr1' := Lib.hid hr1
  have hr2' := Lib.hid hr2
  have hH1' := Lib.hid hH1
  have hH2' := Lib.hid hH2
  clear hH2 hH1 hr2 hr1 hnext hov hst ho1 hs1 hkb hEr hrow hm hb hKB hE1
  go_upto_region 12 with (fail)
  refine wp_alloc4 ?_
  intro W2 hb2 hX2 hz2
  clear c0 c1 c2 c3
  obtain ⟨x0, x1, x2, x3⟩ := move_cells hX2
  have hr1 := hr1'.out
  have hr2 := hr2'.out
  obtain ⟨X, hX⟩ : ∃ X, wr.heap.size = X := ⟨_, rfl⟩
  rw [hX] at hX2 hz2 x0 x1 x2 x3 ⊢
  obtain ⟨BF, hBF⟩ : ∃ BF, barF H1 H2 st ov false true = BF := ⟨_, rfl⟩
  have hbar : barB p q how false true = BF := by rw [barB_eq, kH1, kH2, ← hst'.out, ← hov'.out]; exact hBF
  have hbwW : Below W1.heap.size W1 W2 := hb'.out.trans (hb2.mono hb'.out.size)
  have hm2 := hm'.out.next hb2
  have hrow2 := own_below hrow'.out hb2
  have hbar' := Lib.hid hbar
  have kH1' := Lib.hid kH1
  have kH2' := Lib.hid kH2
  have hX' := Lib.hid hX
  have hX2' := Lib.hid hX2
  have hb2' := Lib.hid hb2
  have hz2' := Lib.hid hz2
  have hbwW' := Lib.hid hbwW
  have hm2' := Lib.hid hm2
  have hrow2' := Lib.hid hrow2
  clear hrow2 hm2 hbwW hz2 hb2 hX2 hX kH2 kH1 hbar
  cases BF with
  | true =>
    have hsame := kinds_none (n := n) (k := k) (i := 1) hbar'.out
    have hlast : ∀ (iz' : Int) t, iz' = 2 → (∃ u : Nat → Value, t = #[(u 0), (u 1), .int .u8 how, .func (.func g) #[] cb, .pointer (some ⟨B4, 0, none⟩), .pointer (some ⟨B5, 0, none⟩), (u 6), (u 7), .int .i64 (n : Nat), .pointer (some ⟨B9, 0, none⟩), .bool st, .pointer (some ⟨B11, 0, none⟩), .bool ov, .pointer (some ⟨B13, 0, none⟩), v, (u 15), (u 16), (u 17), (u 18), (u 19), (u 20), (u 21), (u 22), (u 23), (u 24), (u 25), (u 26), (u 27), (u 28), (u 29), (u 30), (u 31), (u 32), (u 33), (u 34), (u 35), (u 36), (u 37), (u 38), (u 39), (u 40), (u 41), (u 42), (u 43), (u 44), (u 45), (u 46), (u 47), (u 48), (u 49), (u 50), (u 51), (u 52), (u 53), (u 54), (u 55), (u 56), (u 57), (u 58), (u 59), (u 60), (u 61), (u 62), (u 63), .int .i64 (n : Nat), .int .i64 (k : Nat), (u 66), (u 67), (u 68), (u 69), (u 70), (u 71), (u 72), (u 73), (u 74), (u 75), .slice (some ⟨KB, 0, none⟩) 4 4, .int .i64 4, .int .i64 iz', (u 79), (u 80), (u 81), (u 82), (u 83), (u 84), (u 85), (u 86), (u 87), (u 88), (u 89), (u 90), (u 91), (u 92), (u 93), (u 94), (u 95), (u 96), (u 97), (u 98), (u 99), (u 100), (u 101), (u 102), (u 103), (u 104), (u 105), (u 106), (u 107), (u 108), (u 109), (u 110), (u 111), (u 112), (u 113), (u 114), (u 115), (u 116), (u 117), (u 118), (u 119), (u 120), (u 121), (u 122), (u 123), (u 124), (u 125), (u 126), (u 127), (u 128), (u 129), (u 130), (u 131), (u 132), (u 133), (u 134), (u 135), (u 136), (u 137), (u 138), (u 139), (u 140), (u 141), (u 142), (u 143), (u 144), (u 145), (u 146), (u 147), (u 148), (u 149), (u 150), (u 151), (u 152), (u 153), (u 154), (u 155), (u 156), (u 157), (u 158), (u 159), (u 160), (u 161), (u 162), (u 163), (u 164), (u 165), (u 166), (u 167), (u 168), (u 169), (u 170), (u 171), (u 172)]) → KSt p q how g cb st ov n k B4 B5 B9 B11 B13 KB W1 ds0 2 { tmps := t, defers := ds' ++ ds0 } W2 := fun iz' t h1 h2 =>
      ⟨t, ds', v, iz', rfl, h1, h2, hbwW'.out, hm2'.out, by have e : kindsMv p q how n k 2 = kindsMv p q how n k 1 := hsame; rw [e]; exact hrow2'.out⟩
    have hsame' := Lib.hid hsame
    have hlast' := Lib.hid hlast
    clear hlast hsame
    cases H2 <;> cases st <;> first | (exfalso; simp [barF] at hBF; done) | skip
    all_goals
      have hH1 := hH1'.out
      have hH2 := hH2'.out
      go_wp2
      exact hnext'.out _ _ (hlast'.out _ _ rfl (frame_mk _ _ (by kernel_rfl)))
  | false =>
    cases H2 <;> cases st <;> first | (exfalso; simp [barF] at hBF; done) | skip
    all_goals
      have hH1 := hH1'.out
      have hH2 := hH2'.out
      go_upto_region 13 with (fail)
      obtain ⟨F, hF⟩ : ∃ F, fitsB p q n k false true = F := ⟨_, rfl⟩
      have hHr := hX'.out
      refine kind_tail p q hp hq b c B4 B5 B9 B11 B13 s o k X KB how g n 1 cb true ov false true v wr W2 (ds' ++ ds0) _ hn hn0 hk hs ho (frame_mk _ _ (by kernel_rfl)) hEr'.out hX'.out hb2'.out hz2'.out hX2'.out (fun i => by rw [hs1'.out, ho1'.out]; rfl) F hF _ ?_ ?_ _ (by assumption)
      · intro hF1 t' D W3 hu hbX hD hDK hbx
        obtain ⟨u', rfl⟩ := hu
        have hgood := kinds_good (n := n) (k := k) (i := 1) hbar'.out (hF.trans hF1)
        have hle := kindsMv_le p q how n k 1
        have hb3 := (hb2'.out.mono (Nat.le_refl _)).trans (by rw [hHr]; exact hbX)
        have hrow3 := own_below hrow'.out hb3
        have hbw3 := hb'.out.trans (hb3.mono hb'.out.size)
        have hbase : W1.heap.size ≤ X := by rw [← hHr]; exact hb'.out.size
        have hb3z := hb3.size
        obtain ⟨mi, hmi, hz0, hz1, hzb⟩ := info_parts mvInfo
        obtain ⟨x0, x1, x2, x3⟩ := move_cells hbx
        have hnew := new4 W3 (mvAt p q k false true) 54
        have hen := enc_one (mvAt p q k false true)
        have hmks := fun (o : Obj) (W4 : World) (hg : (W3.alloc o).grownBy W4 v.ownBlock) => marks_app hm'.out hHr (by rw [← hHr]; exact hb3) hrow3 hD hbase hDK hg
        have hrl := hrow3.lt
        have hmv : (mvAt p q k false true).enc = [.int .i64 k, .int .i64 (turnAt p q k false true 0), .bool false, .bool true] := rfl
        rw [hmv] at hnew hen
        have hcat : mvCells (kindsMv p q how n k 2) = mvCells (kindsMv p q how n k 1) ++ [.int .i64 k, .int .i64 (turnAt p q k false true 0), .bool false, .bool true] := by
          have e : kindsMv p q how n k 2 = _ := hgood
          rw [e, mvCells_snoc]; rfl
        have hlen4 : (kindsMv p q how n k 2).length = (kindsMv p q how n k 1).length + 1 := by
          have e : kindsMv p q how n k 2 = _ := hgood
          rw [e]; simp
        have hgood' := Lib.hid hgood
        have hle' := Lib.hid hle
        have hb3' := Lib.hid hb3
        have hrow3' := Lib.hid hrow3
        have hbw3' := Lib.hid hbw3
        have hbx' := Lib.hid hbx
        have hDK' := Lib.hid hDK
        have hnew' := Lib.hid hnew
        have hen' := Lib.hid hen
        have hmks' := Lib.hid hmks
        have hz0' := Lib.hid hz0
        have hz1' := Lib.hid hz1
        have hzb' := Lib.hid hzb
        have hrl' := Lib.hid hrl
        have hmv' := Lib.hid hmv
        have hcat' := Lib.hid hcat
        have hlen4' := Lib.hid hlen4
        clear hlen4 hcat hmv hrl hzb hz1 hz0 hmks hen hnew hDK hbx hbw3 hrow3 hb3 hle hgood
        go_wp2_with (first | (at_builtin; go_must (refine wpList_append_own _ rfl _ _ 50 rfl W1.heap.size 54 mi _ 4 24 Try.underlying50 hmi hz0'.out hz1'.out hzb'.out rfl (by decide) v _ _ rfl (hrow3'.out.alloc _) ⟨W3.heap.size, 0, none⟩ 1 1 [.int .i64 k, .int .i64 (turnAt p q k false true 0), .bool false, .bool true] rfl rfl ?_ ?_ ?_ ?_ ?_ ?_)))
        · exact hnew'.out
        · exact hen'.out
        · have := hle'.out; unfold maxLen; omega
        · have := hle'.out; omega
        · have := hb3z; simp; omega
        · intro v4 W4 hown4 hg4 _
          have hmk4 := hmks'.out _ W4 hg4
          have hb4 : Below W1.heap.size W1 W4 := (hbw3'.out.alloc (by omega) _).grown hg4 (by simp; omega) (fun k e => (hrl'.out k e).1)
          rw [← hlen4'.out, ← hcat'.out] at hown4
          have hown4' := Lib.hid hown4
          have hmk4' := Lib.hid hmk4
          have hb4' := Lib.hid hb4
          have hg4' := Lib.hid hg4
          clear hg4 hb4 hmk4 hown4
          go_wp2
          exact hnext'.out _ _ ⟨_, _ :: ds', v4, 2, rfl, rfl, frame_mk _ _ (by kernel_rfl), hb4'.out, hmk4'.out, hown4'.out⟩
      · intro hF0 t' D W3 hu hbX hD hDK
        obtain ⟨u', rfl⟩ := hu
        have hsame := kinds_bad (n := n) (k := k) (i := 1) hbar'.out (hF.trans hF0)
        have hb3 := (hb2'.out.mono (Nat.le_refl _)).trans (by rw [hHr]; exact hbX)
        have hrow3 := own_below hrow'.out hb3
        have hbw3 := hb'.out.trans (hb3.mono hb'.out.size)
        have hbase : W1.heap.size ≤ X := by rw [← hHr]; exact hb'.out.size
        have hmk3 : Marks W1.heap.size W3 ({ target := .collected D, args := #[] } :: ds') := Marks.cons (X := X) (w := wr) (hm'.out.next hb3) (fun d hd => by obtain ⟨D', h1, h2⟩ := hm'.out.lt d hd; exact ⟨D', h1, by omega⟩) hD (by omega) hDK
        have he : kindsMv p q how n k 2 = kindsMv p q how n k 1 := hsame
        rw [← he] at hrow3
        have hsame' := Lib.hid hsame
        have hb3' := Lib.hid hb3
        have hrow3' := Lib.hid hrow3
        have hbw3' := Lib.hid hbw3
        have hDK' := Lib.hid hDK
        have hmk3' := Lib.hid hmk3
        have he' := Lib.hid he
        clear he hmk3 hDK hbw3 hrow3 hb3 hsame
        go_wp2
        exact hnext'.out _ _ ⟨_, _ :: ds', v, 2, rfl, rfl, frame_mk _ _ (by kernel_rfl), hbw3'.out, hmk3'.out, hrow3'.out⟩
set_option maxRecDepth 1000000 in
set_option maxHeartbeats 2000000 in
theorem kind_at2 (p q : Prog) (hp : BenchFacts p) (hq : BenchFacts q) (b c B4 B5 B9 B11 B13 s o k KB how g n : Nat) (cb : Array Value) (st ov H1 H2 : Bool) (W1 wr : World) (ds0 : List Deferred) (a : Act)
    (hn : n ≤ 1152) (hn0 : 0 < n) (hk : k ≤ 1152) (hs : s ≤ 1000000) (ho : o ≤ 1000000) (hs1 : s = offV p q false) (ho1 : o = offV p q true) (hst : st = offB p q false) (hov : ov = offB p q true)
    (r1 r2 : Int) (hr1 : bits .and .u8 (how : Int) 1 = r1) (hr2 : bits .and .u8 (how : Int) 2 = r2) (hH1 : (r1 == 0) = H1) (hH2 : (r2 == 0) = H2) (kH1 : (how % 2 == 0) = H1) (kH2 : (how / 2 % 2 == 0) = H2)
    (hE1 : KEnv p q b c B4 B5 B9 B11 B13 s o k W1) (hKB : W1.heap[KB]? = some (.cells (kindCells k) 54)) (h : KSt p q how g cb st ov n k B4 B5 B9 B11 B13 KB W1 ds0 2 a wr) (Q : Exit → Act → World → Prop)
    (hnext : ∀ a' w', KSt p q how g cb st ov n k B4 B5 B9 B11 B13 KB W1 ds0 3 a' w' → Q .normal a' w') : kBody.wp Try.prog Q a wr := by
  obtain ⟨t, ds', v, iz, rfl, hiz, ⟨u, rfl⟩, hb, hm, hrow⟩ := h
  obtain rfl : iz = 2 := hiz
  conv => arg 2; whnf
  have hEr := hE1.below hb
  have hkb := (hb.block KB (Array.getElem?_eq_some_iff.1 hKB).1).trans hKB
  have c0 : wr.cell? ⟨KB, 8 + 0, none⟩ = some (.int .i64 k) := cell_of_row wr KB _ _ _ _ hkb
  have c1 : wr.cell? ⟨KB, 8 + 1, none⟩ = some (.int .i64 0) := cell_of_row wr KB _ _ _ _ hkb
  have c2 : wr.cell? ⟨KB, 8 + 2, none⟩ = some (.bool true) := cell_of_row wr KB _ _ _ _ hkb
  have c3 : wr.cell? ⟨KB, 8 + 3, none⟩ = some (.bool false) := cell_of_row wr KB _ _ _ _ hkb
  simp only [Nat.reduceAdd] at c0 c1 c2 c3
  have hE1' := Lib.hid hE1
  have hKB' := Lib.hid hKB
  have hb' := Lib.hid hb
  have hm' := Lib.hid hm
  have hrow' := Lib.hid hrow
  have hEr' := Lib.hid hEr
  have hkb' := Lib.hid hkb
  have hs1' := Lib.hid hs1
  have ho1' := Lib.hid ho1
  have hst' := Lib.hid hst
  have hov' := Lib.hid hov
  have hnext' := Lib.hid hnext
  have hr1' := Lib.hid hr1
  have hr2' := Lib.hid hr2
  have hH1' := Lib.hid hH1
  have hH2' := Lib.hid hH2
  clear hH2 hH1 hr2 hr1 hnext hov hst ho1 hs1 hkb hEr hrow hm hb hKB hE1
  go_upto_region 12 with (fail)
  refine wp_alloc4 ?_
  intro W2 hb2 hX2 hz2
  clear c0 c1 c2 c3
  obtain ⟨x0, x1, x2, x3⟩ := move_cells hX2
  have hr1 := hr1'.out
  have hr2 := hr2'.out
  obtain ⟨X, hX⟩ : ∃ X, wr.heap.size = X := ⟨_, rfl⟩
  rw [hX] at hX2 hz2 x0 x1 x2 x3 ⊢
  obtain ⟨BF, hBF⟩ : ∃ BF, barF H1 H2 st ov true false = BF := ⟨_, rfl⟩
  have hbar : barB p q how true false = BF := by rw [barB_eq, kH1, kH2, ← hst'.out, ← hov'.out]; exact hBF
  have hbwW : Below W1.heap.size W1 W2 := hb'.out.trans (hb2.mono hb'.out.size)
  have hm2 := hm'.out.next hb2
  have hrow2 := own_below hrow'.out hb2
  have hbar' := Lib.hid hbar
  have kH1' := Lib.hid kH1
  have kH2' := Lib.hid kH2
  have hX' := Lib.hid hX
  have hX2' := Lib.hid hX2
  have hb2' := Lib.hid hb2
  have hz2' := Lib.hid hz2
  have hbwW' := Lib.hid hbwW
  have hm2' := Lib.hid hm2
  have hrow2' := Lib.hid hrow2
  clear hrow2 hm2 hbwW hz2 hb2 hX2 hX kH2 kH1 hbar
  cases BF with
  | true =>
    have hsame := kinds_none (n := n) (k := k) (i := 2) hbar'.out
    have hlast : ∀ (iz' : Int) t, iz' = 3 → (∃ u : Nat → Value, t = #[(u 0), (u 1), .int .u8 how, .func (.func g) #[] cb, .pointer (some ⟨B4, 0, none⟩), .pointer (some ⟨B5, 0, none⟩), (u 6), (u 7), .int .i64 (n : Nat), .pointer (some ⟨B9, 0, none⟩), .bool st, .pointer (some ⟨B11, 0, none⟩), .bool ov, .pointer (some ⟨B13, 0, none⟩), v, (u 15), (u 16), (u 17), (u 18), (u 19), (u 20), (u 21), (u 22), (u 23), (u 24), (u 25), (u 26), (u 27), (u 28), (u 29), (u 30), (u 31), (u 32), (u 33), (u 34), (u 35), (u 36), (u 37), (u 38), (u 39), (u 40), (u 41), (u 42), (u 43), (u 44), (u 45), (u 46), (u 47), (u 48), (u 49), (u 50), (u 51), (u 52), (u 53), (u 54), (u 55), (u 56), (u 57), (u 58), (u 59), (u 60), (u 61), (u 62), (u 63), .int .i64 (n : Nat), .int .i64 (k : Nat), (u 66), (u 67), (u 68), (u 69), (u 70), (u 71), (u 72), (u 73), (u 74), (u 75), .slice (some ⟨KB, 0, none⟩) 4 4, .int .i64 4, .int .i64 iz', (u 79), (u 80), (u 81), (u 82), (u 83), (u 84), (u 85), (u 86), (u 87), (u 88), (u 89), (u 90), (u 91), (u 92), (u 93), (u 94), (u 95), (u 96), (u 97), (u 98), (u 99), (u 100), (u 101), (u 102), (u 103), (u 104), (u 105), (u 106), (u 107), (u 108), (u 109), (u 110), (u 111), (u 112), (u 113), (u 114), (u 115), (u 116), (u 117), (u 118), (u 119), (u 120), (u 121), (u 122), (u 123), (u 124), (u 125), (u 126), (u 127), (u 128), (u 129), (u 130), (u 131), (u 132), (u 133), (u 134), (u 135), (u 136), (u 137), (u 138), (u 139), (u 140), (u 141), (u 142), (u 143), (u 144), (u 145), (u 146), (u 147), (u 148), (u 149), (u 150), (u 151), (u 152), (u 153), (u 154), (u 155), (u 156), (u 157), (u 158), (u 159), (u 160), (u 161), (u 162), (u 163), (u 164), (u 165), (u 166), (u 167), (u 168), (u 169), (u 170), (u 171), (u 172)]) → KSt p q how g cb st ov n k B4 B5 B9 B11 B13 KB W1 ds0 3 { tmps := t, defers := ds' ++ ds0 } W2 := fun iz' t h1 h2 =>
      ⟨t, ds', v, iz', rfl, h1, h2, hbwW'.out, hm2'.out, by have e : kindsMv p q how n k 3 = kindsMv p q how n k 2 := hsame; rw [e]; exact hrow2'.out⟩
    have hsame' := Lib.hid hsame
    have hlast' := Lib.hid hlast
    clear hlast hsame
    cases H1 <;> cases ov <;> first | (exfalso; simp [barF] at hBF; done) | skip
    all_goals
      have hH1 := hH1'.out
      have hH2 := hH2'.out
      go_wp2
      exact hnext'.out _ _ (hlast'.out _ _ rfl (frame_mk _ _ (by kernel_rfl)))
  | false =>
    cases H1 <;> cases ov <;> first | (exfalso; simp [barF] at hBF; done) | skip
    all_goals
      have hH1 := hH1'.out
      have hH2 := hH2'.out
      go_upto_region 13 with (fail)
      obtain ⟨F, hF⟩ : ∃ F, fitsB p q n k true false = F := ⟨_, rfl⟩
      have hHr := hX'.out
      refine kind_tail p q hp hq b c B4 B5 B9 B11 B13 s o k X KB how g n 2 cb st true true false v wr W2 (ds' ++ ds0) _ hn hn0 hk hs ho (frame_mk _ _ (by kernel_rfl)) hEr'.out hX'.out hb2'.out hz2'.out hX2'.out (fun i => by rw [hs1'.out, ho1'.out]; rfl) F hF _ ?_ ?_ _ (by assumption)
      · intro hF1 t' D W3 hu hbX hD hDK hbx
        obtain ⟨u', rfl⟩ := hu
        have hgood := kinds_good (n := n) (k := k) (i := 2) hbar'.out (hF.trans hF1)
        have hle := kindsMv_le p q how n k 2
        have hb3 := (hb2'.out.mono (Nat.le_refl _)).trans (by rw [hHr]; exact hbX)
        have hrow3 := own_below hrow'.out hb3
        have hbw3 := hb'.out.trans (hb3.mono hb'.out.size)
        have hbase : W1.heap.size ≤ X := by rw [← hHr]; exact hb'.out.size
        have hb3z := hb3.size
        obtain ⟨mi, hmi, hz0, hz1, hzb⟩ := info_parts mvInfo
        obtain ⟨x0, x1, x2, x3⟩ := move_cells hbx
        have hnew := new4 W3 (mvAt p q k true false) 54
        have hen := enc_one (mvAt p q k true false)
        have hmks := fun (o : Obj) (W4 : World) (hg : (W3.alloc o).grownBy W4 v.ownBlock) => marks_app hm'.out hHr (by rw [← hHr]; exact hb3) hrow3 hD hbase hDK hg
        have hrl := hrow3.lt
        have hmv : (mvAt p q k true false).enc = [.int .i64 k, .int .i64 (turnAt p q k true false 0), .bool true, .bool false] := rfl
        rw [hmv] at hnew hen
        have hcat : mvCells (kindsMv p q how n k 3) = mvCells (kindsMv p q how n k 2) ++ [.int .i64 k, .int .i64 (turnAt p q k true false 0), .bool true, .bool false] := by
          have e : kindsMv p q how n k 3 = _ := hgood
          rw [e, mvCells_snoc]; rfl
        have hlen4 : (kindsMv p q how n k 3).length = (kindsMv p q how n k 2).length + 1 := by
          have e : kindsMv p q how n k 3 = _ := hgood
          rw [e]; simp
        have hgood' := Lib.hid hgood
        have hle' := Lib.hid hle
        have hb3' := Lib.hid hb3
        have hrow3' := Lib.hid hrow3
        have hbw3' := Lib.hid hbw3
        have hbx' := Lib.hid hbx
        have hDK' := Lib.hid hDK
        have hnew' := Lib.hid hnew
        have hen' := Lib.hid hen
        have hmks' := Lib.hid hmks
        have hz0' := Lib.hid hz0
        have hz1' := Lib.hid hz1
        have hzb' := Lib.hid hzb
        have hrl' := Lib.hid hrl
        have hmv' := Lib.hid hmv
        have hcat' := Lib.hid hcat
        have hlen4' := Lib.hid hlen4
        clear hlen4 hcat hmv hrl hzb hz1 hz0 hmks hen hnew hDK hbx hbw3 hrow3 hb3 hle hgood
        go_wp2_with (first | (at_builtin; go_must (refine wpList_append_own _ rfl _ _ 50 rfl W1.heap.size 54 mi _ 4 24 Try.underlying50 hmi hz0'.out hz1'.out hzb'.out rfl (by decide) v _ _ rfl (hrow3'.out.alloc _) ⟨W3.heap.size, 0, none⟩ 1 1 [.int .i64 k, .int .i64 (turnAt p q k true false 0), .bool true, .bool false] rfl rfl ?_ ?_ ?_ ?_ ?_ ?_)))
        · exact hnew'.out
        · exact hen'.out
        · have := hle'.out; unfold maxLen; omega
        · have := hle'.out; omega
        · have := hb3z; simp; omega
        · intro v4 W4 hown4 hg4 _
          have hmk4 := hmks'.out _ W4 hg4
          have hb4 : Below W1.heap.size W1 W4 := (hbw3'.out.alloc (by omega) _).grown hg4 (by simp; omega) (fun k e => (hrl'.out k e).1)
          rw [← hlen4'.out, ← hcat'.out] at hown4
          have hown4' := Lib.hid hown4
          have hmk4' := Lib.hid hmk4
          have hb4' := Lib.hid hb4
          have hg4' := Lib.hid hg4
          clear hg4 hb4 hmk4 hown4
          go_wp2
          exact hnext'.out _ _ ⟨_, _ :: ds', v4, 3, rfl, rfl, frame_mk _ _ (by kernel_rfl), hb4'.out, hmk4'.out, hown4'.out⟩
      · intro hF0 t' D W3 hu hbX hD hDK
        obtain ⟨u', rfl⟩ := hu
        have hsame := kinds_bad (n := n) (k := k) (i := 2) hbar'.out (hF.trans hF0)
        have hb3 := (hb2'.out.mono (Nat.le_refl _)).trans (by rw [hHr]; exact hbX)
        have hrow3 := own_below hrow'.out hb3
        have hbw3 := hb'.out.trans (hb3.mono hb'.out.size)
        have hbase : W1.heap.size ≤ X := by rw [← hHr]; exact hb'.out.size
        have hmk3 : Marks W1.heap.size W3 ({ target := .collected D, args := #[] } :: ds') := Marks.cons (X := X) (w := wr) (hm'.out.next hb3) (fun d hd => by obtain ⟨D', h1, h2⟩ := hm'.out.lt d hd; exact ⟨D', h1, by omega⟩) hD (by omega) hDK
        have he : kindsMv p q how n k 3 = kindsMv p q how n k 2 := hsame
        rw [← he] at hrow3
        have hsame' := Lib.hid hsame
        have hb3' := Lib.hid hb3
        have hrow3' := Lib.hid hrow3
        have hbw3' := Lib.hid hbw3
        have hDK' := Lib.hid hDK
        have hmk3' := Lib.hid hmk3
        have he' := Lib.hid he
        clear he hmk3 hDK hbw3 hrow3 hb3 hsame
        go_wp2
        exact hnext'.out _ _ ⟨_, _ :: ds', v, 3, rfl, rfl, frame_mk _ _ (by kernel_rfl), hbw3'.out, hmk3'.out, hrow3'.out⟩
set_option maxRecDepth 1000000 in
set_option maxHeartbeats 2000000 in
theorem kind_at3 (p q : Prog) (hp : BenchFacts p) (hq : BenchFacts q) (b c B4 B5 B9 B11 B13 s o k KB how g n : Nat) (cb : Array Value) (st ov H1 H2 : Bool) (W1 wr : World) (ds0 : List Deferred) (a : Act)
    (hn : n ≤ 1152) (hn0 : 0 < n) (hk : k ≤ 1152) (hs : s ≤ 1000000) (ho : o ≤ 1000000) (hs1 : s = offV p q false) (ho1 : o = offV p q true) (hst : st = offB p q false) (hov : ov = offB p q true)
    (r1 r2 : Int) (hr1 : bits .and .u8 (how : Int) 1 = r1) (hr2 : bits .and .u8 (how : Int) 2 = r2) (hH1 : (r1 == 0) = H1) (hH2 : (r2 == 0) = H2) (kH1 : (how % 2 == 0) = H1) (kH2 : (how / 2 % 2 == 0) = H2)
    (hE1 : KEnv p q b c B4 B5 B9 B11 B13 s o k W1) (hKB : W1.heap[KB]? = some (.cells (kindCells k) 54)) (h : KSt p q how g cb st ov n k B4 B5 B9 B11 B13 KB W1 ds0 3 a wr) (Q : Exit → Act → World → Prop)
    (hnext : ∀ a' w', KSt p q how g cb st ov n k B4 B5 B9 B11 B13 KB W1 ds0 4 a' w' → Q .normal a' w') : kBody.wp Try.prog Q a wr := by
  obtain ⟨t, ds', v, iz, rfl, hiz, ⟨u, rfl⟩, hb, hm, hrow⟩ := h
  obtain rfl : iz = 3 := hiz
  conv => arg 2; whnf
  have hEr := hE1.below hb
  have hkb := (hb.block KB (Array.getElem?_eq_some_iff.1 hKB).1).trans hKB
  have c0 : wr.cell? ⟨KB, 12 + 0, none⟩ = some (.int .i64 k) := cell_of_row wr KB _ _ _ _ hkb
  have c1 : wr.cell? ⟨KB, 12 + 1, none⟩ = some (.int .i64 0) := cell_of_row wr KB _ _ _ _ hkb
  have c2 : wr.cell? ⟨KB, 12 + 2, none⟩ = some (.bool true) := cell_of_row wr KB _ _ _ _ hkb
  have c3 : wr.cell? ⟨KB, 12 + 3, none⟩ = some (.bool true) := cell_of_row wr KB _ _ _ _ hkb
  simp only [Nat.reduceAdd] at c0 c1 c2 c3
  have hE1' := Lib.hid hE1
  have hKB' := Lib.hid hKB
  have hb' := Lib.hid hb
  have hm' := Lib.hid hm
  have hrow' := Lib.hid hrow
  have hEr' := Lib.hid hEr
  have hkb' := Lib.hid hkb
  have hs1' := Lib.hid hs1
  have ho1' := Lib.hid ho1
  have hst' := Lib.hid hst
  have hov' := Lib.hid hov
  have hnext' := Lib.hid hnext
  have hr1' := Lib.hid hr1
  have hr2' := Lib.hid hr2
  have hH1' := Lib.hid hH1
  have hH2' := Lib.hid hH2
  clear hH2 hH1 hr2 hr1 hnext hov hst ho1 hs1 hkb hEr hrow hm hb hKB hE1
  go_upto_region 12 with (fail)
  refine wp_alloc4 ?_
  intro W2 hb2 hX2 hz2
  clear c0 c1 c2 c3
  obtain ⟨x0, x1, x2, x3⟩ := move_cells hX2
  have hr1 := hr1'.out
  have hr2 := hr2'.out
  obtain ⟨X, hX⟩ : ∃ X, wr.heap.size = X := ⟨_, rfl⟩
  rw [hX] at hX2 hz2 x0 x1 x2 x3 ⊢
  obtain ⟨BF, hBF⟩ : ∃ BF, barF H1 H2 st ov true true = BF := ⟨_, rfl⟩
  have hbar : barB p q how true true = BF := by rw [barB_eq, kH1, kH2, ← hst'.out, ← hov'.out]; exact hBF
  have hbwW : Below W1.heap.size W1 W2 := hb'.out.trans (hb2.mono hb'.out.size)
  have hm2 := hm'.out.next hb2
  have hrow2 := own_below hrow'.out hb2
  have hbar' := Lib.hid hbar
  have kH1' := Lib.hid kH1
  have kH2' := Lib.hid kH2
  have hX' := Lib.hid hX
  have hX2' := Lib.hid hX2
  have hb2' := Lib.hid hb2
  have hz2' := Lib.hid hz2
  have hbwW' := Lib.hid hbwW
  have hm2' := Lib.hid hm2
  have hrow2' := Lib.hid hrow2
  clear hrow2 hm2 hbwW hz2 hb2 hX2 hX kH2 kH1 hbar
  cases BF with
  | true =>
    have hsame := kinds_none (n := n) (k := k) (i := 3) hbar'.out
    have hlast : ∀ (iz' : Int) t, iz' = 4 → (∃ u : Nat → Value, t = #[(u 0), (u 1), .int .u8 how, .func (.func g) #[] cb, .pointer (some ⟨B4, 0, none⟩), .pointer (some ⟨B5, 0, none⟩), (u 6), (u 7), .int .i64 (n : Nat), .pointer (some ⟨B9, 0, none⟩), .bool st, .pointer (some ⟨B11, 0, none⟩), .bool ov, .pointer (some ⟨B13, 0, none⟩), v, (u 15), (u 16), (u 17), (u 18), (u 19), (u 20), (u 21), (u 22), (u 23), (u 24), (u 25), (u 26), (u 27), (u 28), (u 29), (u 30), (u 31), (u 32), (u 33), (u 34), (u 35), (u 36), (u 37), (u 38), (u 39), (u 40), (u 41), (u 42), (u 43), (u 44), (u 45), (u 46), (u 47), (u 48), (u 49), (u 50), (u 51), (u 52), (u 53), (u 54), (u 55), (u 56), (u 57), (u 58), (u 59), (u 60), (u 61), (u 62), (u 63), .int .i64 (n : Nat), .int .i64 (k : Nat), (u 66), (u 67), (u 68), (u 69), (u 70), (u 71), (u 72), (u 73), (u 74), (u 75), .slice (some ⟨KB, 0, none⟩) 4 4, .int .i64 4, .int .i64 iz', (u 79), (u 80), (u 81), (u 82), (u 83), (u 84), (u 85), (u 86), (u 87), (u 88), (u 89), (u 90), (u 91), (u 92), (u 93), (u 94), (u 95), (u 96), (u 97), (u 98), (u 99), (u 100), (u 101), (u 102), (u 103), (u 104), (u 105), (u 106), (u 107), (u 108), (u 109), (u 110), (u 111), (u 112), (u 113), (u 114), (u 115), (u 116), (u 117), (u 118), (u 119), (u 120), (u 121), (u 122), (u 123), (u 124), (u 125), (u 126), (u 127), (u 128), (u 129), (u 130), (u 131), (u 132), (u 133), (u 134), (u 135), (u 136), (u 137), (u 138), (u 139), (u 140), (u 141), (u 142), (u 143), (u 144), (u 145), (u 146), (u 147), (u 148), (u 149), (u 150), (u 151), (u 152), (u 153), (u 154), (u 155), (u 156), (u 157), (u 158), (u 159), (u 160), (u 161), (u 162), (u 163), (u 164), (u 165), (u 166), (u 167), (u 168), (u 169), (u 170), (u 171), (u 172)]) → KSt p q how g cb st ov n k B4 B5 B9 B11 B13 KB W1 ds0 4 { tmps := t, defers := ds' ++ ds0 } W2 := fun iz' t h1 h2 =>
      ⟨t, ds', v, iz', rfl, h1, h2, hbwW'.out, hm2'.out, by have e : kindsMv p q how n k 4 = kindsMv p q how n k 3 := hsame; rw [e]; exact hrow2'.out⟩
    have hsame' := Lib.hid hsame
    have hlast' := Lib.hid hlast
    clear hlast hsame
    cases H1 <;> cases H2 <;> cases ov <;> first | (exfalso; simp [barF] at hBF; done) | skip
    all_goals
      have hH1 := hH1'.out
      have hH2 := hH2'.out
      go_wp2
      exact hnext'.out _ _ (hlast'.out _ _ rfl (frame_mk _ _ (by kernel_rfl)))
  | false =>
    cases H1 <;> cases H2 <;> cases ov <;> first | (exfalso; simp [barF] at hBF; done) | skip
    all_goals
      have hH1 := hH1'.out
      have hH2 := hH2'.out
      go_upto_region 13 with (fail)
      obtain ⟨F, hF⟩ : ∃ F, fitsB p q n k true true = F := ⟨_, rfl⟩
      have hHr := hX'.out
      refine kind_tail p q hp hq b c B4 B5 B9 B11 B13 s o k X KB how g n 3 cb st true true true v wr W2 (ds' ++ ds0) _ hn hn0 hk hs ho (frame_mk _ _ (by kernel_rfl)) hEr'.out hX'.out hb2'.out hz2'.out hX2'.out (fun i => by rw [hs1'.out, ho1'.out]; rfl) F hF _ ?_ ?_ _ (by assumption)
      · intro hF1 t' D W3 hu hbX hD hDK hbx
        obtain ⟨u', rfl⟩ := hu
        have hgood := kinds_good (n := n) (k := k) (i := 3) hbar'.out (hF.trans hF1)
        have hle := kindsMv_le p q how n k 3
        have hb3 := (hb2'.out.mono (Nat.le_refl _)).trans (by rw [hHr]; exact hbX)
        have hrow3 := own_below hrow'.out hb3
        have hbw3 := hb'.out.trans (hb3.mono hb'.out.size)
        have hbase : W1.heap.size ≤ X := by rw [← hHr]; exact hb'.out.size
        have hb3z := hb3.size
        obtain ⟨mi, hmi, hz0, hz1, hzb⟩ := info_parts mvInfo
        obtain ⟨x0, x1, x2, x3⟩ := move_cells hbx
        have hnew := new4 W3 (mvAt p q k true true) 54
        have hen := enc_one (mvAt p q k true true)
        have hmks := fun (o : Obj) (W4 : World) (hg : (W3.alloc o).grownBy W4 v.ownBlock) => marks_app hm'.out hHr (by rw [← hHr]; exact hb3) hrow3 hD hbase hDK hg
        have hrl := hrow3.lt
        have hmv : (mvAt p q k true true).enc = [.int .i64 k, .int .i64 (turnAt p q k true true 0), .bool true, .bool true] := rfl
        rw [hmv] at hnew hen
        have hcat : mvCells (kindsMv p q how n k 4) = mvCells (kindsMv p q how n k 3) ++ [.int .i64 k, .int .i64 (turnAt p q k true true 0), .bool true, .bool true] := by
          have e : kindsMv p q how n k 4 = _ := hgood
          rw [e, mvCells_snoc]; rfl
        have hlen4 : (kindsMv p q how n k 4).length = (kindsMv p q how n k 3).length + 1 := by
          have e : kindsMv p q how n k 4 = _ := hgood
          rw [e]; simp
        have hgood' := Lib.hid hgood
        have hle' := Lib.hid hle
        have hb3' := Lib.hid hb3
        have hrow3' := Lib.hid hrow3
        have hbw3' := Lib.hid hbw3
        have hbx' := Lib.hid hbx
        have hDK' := Lib.hid hDK
        have hnew' := Lib.hid hnew
        have hen' := Lib.hid hen
        have hmks' := Lib.hid hmks
        have hz0' := Lib.hid hz0
        have hz1' := Lib.hid hz1
        have hzb' := Lib.hid hzb
        have hrl' := Lib.hid hrl
        have hmv' := Lib.hid hmv
        have hcat' := Lib.hid hcat
        have hlen4' := Lib.hid hlen4
        clear hlen4 hcat hmv hrl hzb hz1 hz0 hmks hen hnew hDK hbx hbw3 hrow3 hb3 hle hgood
        go_wp2_with (first | (at_builtin; go_must (refine wpList_append_own _ rfl _ _ 50 rfl W1.heap.size 54 mi _ 4 24 Try.underlying50 hmi hz0'.out hz1'.out hzb'.out rfl (by decide) v _ _ rfl (hrow3'.out.alloc _) ⟨W3.heap.size, 0, none⟩ 1 1 [.int .i64 k, .int .i64 (turnAt p q k true true 0), .bool true, .bool true] rfl rfl ?_ ?_ ?_ ?_ ?_ ?_)))
        · exact hnew'.out
        · exact hen'.out
        · have := hle'.out; unfold maxLen; omega
        · have := hle'.out; omega
        · have := hb3z; simp; omega
        · intro v4 W4 hown4 hg4 _
          have hmk4 := hmks'.out _ W4 hg4
          have hb4 : Below W1.heap.size W1 W4 := (hbw3'.out.alloc (by omega) _).grown hg4 (by simp; omega) (fun k e => (hrl'.out k e).1)
          rw [← hlen4'.out, ← hcat'.out] at hown4
          have hown4' := Lib.hid hown4
          have hmk4' := Lib.hid hmk4
          have hb4' := Lib.hid hb4
          have hg4' := Lib.hid hg4
          clear hg4 hb4 hmk4 hown4
          go_wp2
          exact hnext'.out _ _ ⟨_, _ :: ds', v4, 4, rfl, rfl, frame_mk _ _ (by kernel_rfl), hb4'.out, hmk4'.out, hown4'.out⟩
      · intro hF0 t' D W3 hu hbX hD hDK
        obtain ⟨u', rfl⟩ := hu
        have hsame := kinds_bad (n := n) (k := k) (i := 3) hbar'.out (hF.trans hF0)
        have hb3 := (hb2'.out.mono (Nat.le_refl _)).trans (by rw [hHr]; exact hbX)
        have hrow3 := own_below hrow'.out hb3
        have hbw3 := hb'.out.trans (hb3.mono hb'.out.size)
        have hbase : W1.heap.size ≤ X := by rw [← hHr]; exact hb'.out.size
        have hmk3 : Marks W1.heap.size W3 ({ target := .collected D, args := #[] } :: ds') := Marks.cons (X := X) (w := wr) (hm'.out.next hb3) (fun d hd => by obtain ⟨D', h1, h2⟩ := hm'.out.lt d hd; exact ⟨D', h1, by omega⟩) hD (by omega) hDK
        have he : kindsMv p q how n k 4 = kindsMv p q how n k 3 := hsame
        rw [← he] at hrow3
        have hsame' := Lib.hid hsame
        have hb3' := Lib.hid hb3
        have hrow3' := Lib.hid hrow3
        have hbw3' := Lib.hid hbw3
        have hDK' := Lib.hid hDK
        have hmk3' := Lib.hid hmk3
        have he' := Lib.hid he
        clear he hmk3 hDK hbw3 hrow3 hb3 hsame
        go_wp2
        exact hnext'.out _ _ ⟨_, _ :: ds', v, 4, rfl, rfl, frame_mk _ _ (by kernel_rfl), hbw3'.out, hmk3'.out, hrow3'.out⟩
end Go.Proofs.Ytbikpadjmmgpcaa
namespace Go.Proofs.Ytbikpadjmmgpcaa
open Go.RowKit Go.Shelf Go.Sort Go.Lib
set_option linter.unusedVariables false
set_option linter.unusedSimpArgs false
attribute [local go_sem] Oper.semAt_some
attribute [local go_sem ↓] Go.wp_at_zero Go.wp_at_succ
theorem sort_nil_ins (w : World) : Calls Try.prog 92 #[.slice none 0 0, .int .i64 0, .int .i64 0, .func (.func 63) #[] #[]] w fun e w' => e = .returned (.tuple #[]) ∧ w = w' := by
  go_enter Try.func92, Try.ntmps92
  go_wp2
  refine wp_loop_rounds 1 ?_
  rw [rounds_succ]
  go_wp2
  go_end0
  exact ⟨rfl, rfl⟩
theorem sort_nil_st (w : World) : Calls Try.prog 80 #[.slice none 0 0, .int .i64 0, .func (.func 63) #[] #[]] w fun e w' => e = .returned (.tuple #[]) ∧ w = w' := by
  go_enter Try.func80, Try.ntmps80
  go_wp2
  refine wp_loop_rounds 1 ?_
  rw [rounds_succ]
  go_wp2_with (first | (go_at_call 92; ((with_reducible refine (sort_nil_ins _).mono ?_); rintro e w' ⟨rfl, rfl⟩)))
  refine wp_loop_rounds 1 ?_
  rw [rounds_succ]
  go_wp2
  go_end0
  exact ⟨rfl, rfl⟩
theorem sort_nil (w : World) : Calls Try.prog 62 #[.slice none 0 0, .func (.func 63) #[] #[]] w fun e w' => e = .returned (.tuple #[]) ∧ w = w' := by
  go_enter Try.func62, Try.ntmps62
  go_wp2_with (first | (go_at_call 80; ((with_reducible refine (sort_nil_st _).mono ?_); rintro e w' ⟨rfl, rfl⟩)))
  go_end0
  exact ⟨rfl, rfl⟩
theorem sort_row (base : Nat) (v : Value) (L : List Mv) (w : World) (h : w.ownsRow base 54 4 v L.length (mvCells L)) (hL : L.length ≤ 19) :
    Calls Try.prog 62 #[v, .func (.func 63) #[] #[]] w fun e w' => e = .returned (.tuple #[]) ∧ w'.ownsRow base 54 4 v (sortMv L).length (mvCells (sortMv L)) ∧ w.grownBy w' v.ownBlock := by
  rcases h.2 with ⟨rfl, h0⟩ | ⟨g, cap, cur, rfl, hb, hh, _⟩
  · have hL0 : L = [] := List.eq_nil_of_length_eq_zero h0
    subst hL0
    refine (sort_nil w).mono ?_
    rintro e w' ⟨rfl, rfl⟩
    exact ⟨rfl, by rw [show sortMv [] = [] by apply List.eq_nil_of_length_eq_zero; rw [sortMv_length]; rfl]; exact World.ownsRow_nil _ _ _ _, World.grownBy.refl _ _⟩
  · have hlt := (Array.getElem?_eq_some_iff.1 hh).1
    have hc := pf_SortStable g cap L.toArray w (own_holds h) hlt (by simpa using hL)
    refine Calls.mono hc ?_
    rintro e w' ⟨rfl, n, os, rfl⟩
    have hsz : (Sort.insertionSort (ltOf cmpMv) L.toArray 0 L.toArray.size).size = L.length := by
      have := sortMv_length L
      unfold sortMv at this
      simpa using this
    obtain ⟨h1, h2, h3⟩ := own_sorted h (Sort.insertionSort (ltOf cmpMv) L.toArray 0 L.toArray.size) hsz n os
    refine ⟨rfl, ?_, rfl, rfl, rfl, h2, fun k hk hne => h3 k hk (fun e => hne (by rw [e]; rfl))⟩
    have e1 : (Sort.insertionSort (ltOf cmpMv) L.toArray 0 L.toArray.size).toList = sortMv L := by unfold sortMv; simp
    rw [e1] at h1
    rw [sortMv_length]
    exact h1
set_option maxRecDepth 1000000 in
theorem kind_end (p q : Prog) (b c B4 B5 B9 B11 B13 KB how g n k : Nat) (cb : Array Value) (st ov : Bool) (W1 wr : World) (ds0 : List Deferred) (a : Act)
    (h : KSt p q how g cb st ov n k B4 B5 B9 B11 B13 KB W1 ds0 4 a wr) (Q : Exit → Act → World → Prop) (hend : ∀ a' w', KSt p q how g cb st ov n k B4 B5 B9 B11 B13 KB W1 ds0 4 a' w' → Q (.exit 2) a' w') : kBody.wp Try.prog Q a wr := by
  obtain ⟨t, ds', v, iz, rfl, hiz, ⟨u, rfl⟩, hb, hm, hrow⟩ := h
  obtain rfl : iz = 4 := hiz
  conv => arg 2; whnf
  have hend' := Lib.hid hend
  have hb' := Lib.hid hb
  have hm' := Lib.hid hm
  have hrow' := Lib.hid hrow
  clear hrow hm hb hend
  go_wp2
  exact hend'.out _ _ ⟨_, ds', v, 4, rfl, rfl, frame_mk _ _ (by kernel_rfl), hb'.out, hm'.out, hrow'.out⟩
set_option maxRecDepth 1000000 in
theorem kinds_loop (p q : Prog) (hp : BenchFacts p) (hq : BenchFacts q) (b c B4 B5 B9 B11 B13 s o k KB how g n : Nat) (cb : Array Value) (st ov : Bool) (W1 : World) (ds0 : List Deferred) (a : Act)
    (hn : n ≤ 1152) (hn0 : 0 < n) (hk : k ≤ 1152) (hs : s ≤ 1000000) (ho : o ≤ 1000000) (hs1 : s = offV p q false) (ho1 : o = offV p q true) (hst : st = offB p q false) (hov : ov = offB p q true) (hhow : how ≤ 3)
    (hE1 : KEnv p q b c B4 B5 B9 B11 B13 s o k W1) (hKB : W1.heap[KB]? = some (.cells (kindCells k) 54)) (h : KSt p q how g cb st ov n k B4 B5 B9 B11 B13 KB W1 ds0 0 a W1) (Q : Exit → Act → World → Prop)
    (hend : ∀ a' w', KSt p q how g cb st ov n k B4 B5 B9 B11 B13 KB W1 ds0 4 a' w' → Q (.exit 2) a' w') : (Code.loop kBody).wp Try.prog Q a W1 := by
  have hmu : ∀ i a' w', KSt p q how g cb st ov n k B4 B5 B9 B11 B13 KB W1 ds0 i a' w' → (intOf (a'.tmps.getD 78 undef)).toNat = i := by
    rintro i a' w' ⟨t, ds', v, iz, rfl, hiz, ⟨u, rfl⟩, _⟩
    show (intOf (Value.int .i64 iz)).toNat = i
    rw [hiz]
    simp [intOf]
  obtain ⟨r1, r2, hr1, hr2, hh1, hh2⟩ : ∃ r1 r2 : Int, bits .and .u8 (how : Int) 1 = r1 ∧ bits .and .u8 (how : Int) 2 = r2 ∧ (r1 == 0) = (how % 2 == 0) ∧ (r2 == 0) = (how / 2 % 2 == 0) := by
    obtain rfl | rfl | rfl | rfl : how = 0 ∨ how = 1 ∨ how = 2 ∨ how = 3 := by omega
    · exact ⟨0, 0, by decide, by decide, by decide, by decide⟩
    · exact ⟨1, 0, by decide, by decide, by decide, by decide⟩
    · exact ⟨0, 2, by decide, by decide, by decide, by decide⟩
    · exact ⟨1, 2, by decide, by decide, by decide, by decide⟩
  refine wp_loop (fun a' w' => ∃ i, i ≤ 4 ∧ KSt p q how g cb st ov n k B4 B5 B9 B11 B13 KB W1 ds0 i a' w') (fun a' _ => 4 - (intOf (a'.tmps.getD 78 undef)).toNat) ⟨0, by omega, h⟩ ?_
  rintro a' w' ⟨i, hi, hK⟩
  have step : ∀ a2 w2, i < 4 → KSt p q how g cb st ov n k B4 B5 B9 B11 B13 KB W1 ds0 (i + 1) a2 w2 → Exit.then (fun a3 w3 => (∃ i, i ≤ 4 ∧ KSt p q how g cb st ov n k B4 B5 B9 B11 B13 KB W1 ds0 i a3 w3) ∧ 4 - (intOf (a3.tmps.getD 78 undef)).toNat < 4 - (intOf (a'.tmps.getD 78 undef)).toNat) Q .normal a2 w2 := by
    intro a2 w2 hlt h2
    refine ⟨⟨i + 1, by omega, h2⟩, ?_⟩
    rw [hmu _ _ _ h2, hmu _ _ _ hK]
    omega
  obtain rfl | rfl | rfl | rfl | rfl : i = 0 ∨ i = 1 ∨ i = 2 ∨ i = 3 ∨ i = 4 := by omega
  · exact kind_at0 p q hp hq b c B4 B5 B9 B11 B13 s o k KB how g n cb st ov _ _ W1 w' ds0 a' hn hn0 hk hs ho hs1 ho1 hst hov r1 r2 hr1 hr2 hh1 hh2 rfl rfl hE1 hKB hK _ (fun a2 w2 h2 => step a2 w2 (by omega) h2)
  · exact kind_at1 p q hp hq b c B4 B5 B9 B11 B13 s o k KB how g n cb st ov _ _ W1 w' ds0 a' hn hn0 hk hs ho hs1 ho1 hst hov r1 r2 hr1 hr2 hh1 hh2 rfl rfl hE1 hKB hK _ (fun a2 w2 h2 => step a2 w2 (by omega) h2)
  · exact kind_at2 p q hp hq b c B4 B5 B9 B11 B13 s o k KB how g n cb st ov _ _ W1 w' ds0 a' hn hn0 hk hs ho hs1 ho1 hst hov r1 r2 hr1 hr2 hh1 hh2 rfl rfl hE1 hKB hK _ (fun a2 w2 h2 => step a2 w2 (by omega) h2)
  · exact kind_at3 p q hp hq b c B4 B5 B9 B11 B13 s o k KB how g n cb st ov _ _ W1 w' ds0 a' hn hn0 hk hs ho hs1 ho1 hst hov r1 r2 hr1 hr2 hh1 hh2 rfl rfl hE1 hKB hK _ (fun a2 w2 h2 => step a2 w2 (by omega) h2)
  · exact kind_end p q b c B4 B5 B9 B11 B13 KB how g n k cb st ov W1 w' ds0 a' hK _ hend
end Go.Proofs.Ytbikpadjmmgpcaa
namespace Go.Proofs.Ytbikpadjmmgpcaa
open Go.RowKit Go.Shelf Go.Sort Go.Lib
set_option linter.unusedVariables false
set_option linter.unusedSimpArgs false
attribute [local go_sem] Oper.semAt_some
attribute [local go_sem ↓] Go.wp_at_zero Go.wp_at_succ
/-- What the benches rest on: Ben holds of a world, and is kept by what is laid, and by a receiver's call. -/
structure BenOk (p q : Prog) (b c N : Nat) (Own : World → Nat → Prop) (Ben : World → Prop) : Prop where
  one : ∀ W, Ben W → IsBench W b p
  two : ∀ W, Ben W → IsBench W c q
  next : ∀ W W', Ben W → Below W.heap.size W W' → Ben W'
  step : ∀ W W', Ben W → Below N W W' → Saves Own W W' → Ben W'
structure SStB (T84 T3 : TypeId) (N : Nat) (w0 : World) (Ben : World → Prop) (B4 B5 B9 B11 b c : Nat) (s o : Nat) (Own : World → Nat → Prop) (Inv : List Mv → World → Prop) (pre : List Mv) (W : World) : Prop where
  below : Below N w0 W
  nle : N ≤ W.heap.size
  ben : Ben W
  inv : Inv pre W
  b4 : W.heap[B4]? = some (.cells #[.pointer (some ⟨b, 0, none⟩)] T84) ∧ ¬ Own W B4
  b5 : W.heap[B5]? = some (.cells #[.pointer (some ⟨c, 0, none⟩)] T84) ∧ ¬ Own W B5
  b9 : W.heap[B9]? = some (.cells #[.int .i64 (s : Int)] T3) ∧ ¬ Own W B9
  b11 : W.heap[B11]? = some (.cells #[.int .i64 (o : Int)] T3) ∧ ¬ Own W B11
section
variable {P : Program} {p q : Prog} {N g : Nat} {cb : Array Value} {goes : Bool} {T84 T3 : TypeId} {w0 : World} {Ben : World → Prop} {B4 B5 B9 B11 b c s o : Nat} {Own : World → Nat → Prop} {Inv : List Mv → World → Prop} {pre : List Mv} {W W' : World}
theorem SStB.next (hK : BenOk p q b c N Own Ben) (hR : Recv P N g cb goes Own Inv) (h : SStB T84 T3 N w0 Ben B4 B5 B9 B11 b c s o Own Inv pre W) (hb : Below W.heap.size W W') : SStB T84 T3 N w0 Ben B4 B5 B9 B11 b c s o Own Inv pre W' := by
  have hf := hR.frame pre W W' h.inv hb.size (fun k hk => hb.block k (hR.own pre W k h.inv hk).2)
  have hl : ∀ {B : Nat} {x : Obj}, W.heap[B]? = some x → W'.heap[B]? = some x := fun hx => (hb.block _ (Array.getElem?_eq_some_iff.1 hx).1).trans hx
  exact ⟨h.below.trans (hb.mono h.nle), Nat.le_trans h.nle hb.size, hK.next _ _ h.ben hb, hf.1, ⟨hl h.b4.1, fun hk => h.b4.2 (hf.2 _ hk)⟩, ⟨hl h.b5.1, fun hk => h.b5.2 (hf.2 _ hk)⟩, ⟨hl h.b9.1, fun hk => h.b9.2 (hf.2 _ hk)⟩, ⟨hl h.b11.1, fun hk => h.b11.2 (hf.2 _ hk)⟩⟩
theorem SStB.step (hK : BenOk p q b c N Own Ben) (h : SStB T84 T3 N w0 Ben B4 B5 B9 B11 b c s o Own Inv pre W) {x : Mv} (hi : Inv (pre ++ [x]) W') (hb : Below N W W') (hs : Saves Own W W') (ho : ∀ k, Own W' k → Own W k ∨ W.heap.size ≤ k) : SStB T84 T3 N w0 Ben B4 B5 B9 B11 b c s o Own Inv (pre ++ [x]) W' := by
  have hl : ∀ {B : Nat} {x : Obj}, W.heap[B]? = some x ∧ ¬ Own W B → W'.heap[B]? = some x ∧ ¬ Own W' B := fun {B x} hx => by
    have hlt := (Array.getElem?_eq_some_iff.1 hx.1).1
    exact ⟨(hs _ hlt hx.2).trans hx.1, fun hk => (ho _ hk).elim hx.2 (fun hk => by omega)⟩
  exact ⟨h.below.trans hb, Nat.le_trans h.nle hb.size, hK.step _ _ h.ben hb hs, hi, hl h.b4, hl h.b5, hl h.b9, hl h.b11⟩
end
def FSt (goes : Bool) (Own : World → Nat → Prop) (Inv : List Mv → World → Prop) (N : Nat) (Ben : World → Prop) (w0 : World) (b c s o how g : Nat) (cb : Array Value) (st ov : Bool) (n k B4 B5 B9 B11 base : Nat) (pre L : List Mv) (v : Value) (ds : List Deferred) (i : Nat) (a : Act) (W : World) : Prop :=
  ∃ (t : Array Value) (iz : Int), a = { tmps := t, defers := ds } ∧ iz = i ∧ (∃ u : Nat → Value, t = #[(u 0), (u 1), .int .u8 how, .func (.func g) #[] cb, .pointer (some ⟨B4, 0, none⟩), .pointer (some ⟨B5, 0, none⟩), (u 6), (u 7), .int .i64 (n : Nat), .pointer (some ⟨B9, 0, none⟩), .bool st, .pointer (some ⟨B11, 0, none⟩), .bool ov, (u 13), (u 14), (u 15), (u 16), (u 17), (u 18), (u 19), (u 20), (u 21), (u 22), (u 23), (u 24), (u 25), (u 26), (u 27), (u 28), (u 29), (u 30), (u 31), (u 32), (u 33), (u 34), (u 35), (u 36), (u 37), (u 38), (u 39), (u 40), (u 41), (u 42), (u 43), (u 44), (u 45), (u 46), (u 47), (u 48), (u 49), (u 50), (u 51), (u 52), (u 53), (u 54), (u 55), (u 56), (u 57), (u 58), (u 59), (u 60), (u 61), (u 62), (u 63), .int .i64 (n : Nat), .int .i64 (k : Nat), (u 66), (u 67), (u 68), (u 69), (u 70), (u 71), (u 72), (u 73), (u 74), (u 75), (u 76), (u 77), (u 78), (u 79), (u 80), (u 81), (u 82), (u 83), (u 84), (u 85), (u 86), (u 87), (u 88), (u 89), (u 90), (u 91), (u 92), (u 93), (u 94), (u 95), (u 96), (u 97), (u 98), (u 99), (u 100), (u 101), (u 102), (u 103), (u 104), (u 105), (u 106), (u 107), (u 108), (u 109), (u 110), (u 111), (u 112), (u 113), (u 114), (u 115), (u 116), (u 117), (u 118), (u 119), (u 120), (u 121), (u 122), (u 123), (u 124), (u 125), (u 126), (u 127), (u 128), (u 129), (u 130), (u 131), (u 132), (u 133), (u 134), (u 135), (u 136), (u 137), (u 138), (u 139), (u 140), (u 141), (u 142), (u 143), (u 144), (u 145), (u 146), (u 147), (u 148), (u 149), (u 150), (u 151), (u 152), (u 153), (u 154), (u 155), (u 156), (u 157), (u 158), (u 159), (u 160), v, .int .i64 (L.length : Nat), .int .i64 iz, (u 164), (u 165), (u 166), (u 167), (u 168), (u 169), (u 170), (u 171), (u 172)]) ∧ SStB 72 3 N w0 Ben B4 B5 B9 B11 b c s o Own Inv (pre ++ L.take i) W ∧
    W.ownsRow base 54 4 v L.length (mvCells L) ∧ (∀ r, v.ownBlock = some r → ¬ Own W r) ∧ OMarks Own N W ds ∧ (goes = false → pre ++ L.take i = [])
theorem enc_cells {W : World} {base e g c : Nat} {L : List Mv} (h : W.ownsRow base e 4 (.slice (some ⟨g, 0, none⟩) L.length c) L.length (mvCells L)) {i : Nat} (hi : i < L.length) :
    W.cell? ⟨g, i * 4, none⟩ = some (.int .i64 L[i].cuts) ∧ W.cell? ⟨g, i * 4 + 1, none⟩ = some (.int .i64 L[i].turn) ∧ W.cell? ⟨g, i * 4 + 2, none⟩ = some (.bool L[i].mirror) ∧ W.cell? ⟨g, i * 4 + 3, none⟩ = some (.bool L[i].back) := by
  have key : ∀ t, t < 4 → W.cell? ⟨g, i * 4 + t, none⟩ = some ((Mv.enc L[i])[t]!) := fun t ht => by
    rw [h.cellAt (i * 4 + t) (by omega), mvCells_get L (i * 4 + t) (by omega)]
    have e1 : (i * 4 + t) / 4 = i := by omega
    have e2 : (i * 4 + t) % 4 = t := by omega
    rw [e1, e2, getElem!_pos L i hi]
  exact ⟨key 0 (by omega), key 1 (by omega), key 2 (by omega), key 3 (by omega)⟩
set_option maxRecDepth 1000000 in
set_option maxHeartbeats 2000000 in
theorem found_round {p q : Prog} (goes : Bool) (Own : World → Nat → Prop) (Inv : List Mv → World → Prop) (N : Nat) (Ben : World → Prop) (w0 : World) (b c s o how g : Nat) (cb : Array Value) (st ov : Bool) (n k B4 B5 B9 B11 base : Nat) (pre L : List Mv) (v : Value) (ds : List Deferred) (i : Nat) (a : Act) (W : World)
    (hR : Recv Try.prog N g cb goes Own Inv) (hK : BenOk p q b c N Own Ben) (hpl : pre.length + L.length ≤ 10000) (hi : i ≤ L.length) (h : FSt goes Own Inv N Ben w0 b c s o how g cb st ov n k B4 B5 B9 B11 base pre L v ds i a W) (Q : Exit → Act → World → Prop) (id : Nat)
    (hnext : i < L.length → ∀ a' w', FSt goes Own Inv N Ben w0 b c s o how g cb st ov n k B4 B5 B9 B11 base pre L v ds (i + 1) a' w' → Q .normal a' w')
    (hend : i = L.length → ∀ a' w', FSt goes Own Inv N Ben w0 b c s o how g cb st ov n k B4 B5 B9 B11 base pre L v ds L.length a' w' → Q (.exit 6) a' w')
    (hret : i < L.length → goes = false → ∀ t' w', pre ++ L.take i = [] → SStB 72 3 N w0 Ben B4 B5 B9 B11 b c s o Own Inv (pre ++ L.take (i + 1)) w' → OMarks Own N w' ds → Q .ret { tmps := t', defers := ds } w') :
    fBody.wp Try.prog Q a W := by
  obtain ⟨t, iz, rfl, hiz, ⟨u, rfl⟩, hS, hrow, hno, hom, hgo⟩ := h
  conv => arg 2; whnf
  have hLl : L.length ≤ 10000 := by omega
  by_cases hlt : i < L.length
  · have hlz : (iz : Int) < (L.length : Int) := by omega
    have hv : ∃ gb cp, v = .slice (some ⟨gb, 0, none⟩) L.length cp ∧ gb < W.heap.size := by
      rcases hrow.2 with ⟨rfl, h0⟩ | ⟨g', cap, cur, rfl, hb, hh, _⟩
      · omega
      · exact ⟨g', cap, rfl, (Array.getElem?_eq_some_iff.1 hh).1⟩
    obtain ⟨gb, cp, rfl, hgl⟩ := hv
    obtain ⟨c0, c1, c2, c3⟩ := enc_cells hrow hlt
    have htk : L.take (i + 1) = L.take i ++ [L[i]] := by rw [List.take_add_one, List.getElem?_eq_getElem hlt]; rfl
    generalize hx : L[i] = x at c0 c1 c2 c3 htk
    obtain ⟨xc, xt, xm, xb⟩ := x
    have hent := hR.enters
    subst hiz
    have hend' := trivial
    clear hend hend'
    have hR' := Lib.hid hR
    have hS' := Lib.hid hS
    have hrow' := Lib.hid hrow
    have hno' := Lib.hid hno
    have hom' := Lib.hid hom
    have hgo' := Lib.hid hgo
    have hnext' := Lib.hid hnext
    have hret' := Lib.hid hret
    have htk' := Lib.hid htk
    have hx' := Lib.hid hx
    clear hx htk hret hnext hgo hom hno hrow hS hR
    go_upto_region 32 with (fail)
    refine wp_alloc4 ?_
    intro W2 hb2 hX2 hz2
    clear c0 c1 c2 c3
    obtain ⟨x0, x1, x2, x3⟩ := move_cells hX2
    obtain ⟨X, hX⟩ : ∃ X, W.heap.size = X := ⟨_, rfl⟩
    rw [hX] at hX2 hz2 x0 x1 x2 x3 ⊢
    have hR := hR'.out
    have hS2 := SStB.next hK hR hS'.out hb2
    have hrow2 := own_below hrow'.out hb2
    have hO2 : ∀ k, Own W2 k → Own W k := (hR.frame _ W W2 hS'.out.inv hb2.size (fun k hk => hb2.block k (hR.own _ W k hS'.out.inv hk).2)).2
    have hno2 : ¬ Own W2 gb := fun hk => hno'.out gb rfl (hO2 gb hk)
    have hom2 := OMarks.next hR hS'.out.inv hom'.out hb2
    have hgl2 : gb < W2.heap.size := Nat.lt_of_lt_of_le hgl hb2.size
    have hplen : (pre ++ L.take i).length ≤ 10000 := by simp; omega
    have hcall := hR.call _ ⟨xc, xt, xm, xb⟩ W2 hS2.inv hplen
    have hcall2 : Calls Try.prog g (#[.agg #[.int .i64 xc, .int .i64 xt, .bool xm, .bool xb]] ++ cb) W2 fun e w' => e = .returned (.bool goes) ∧ SStB 72 3 N w0 Ben B4 B5 B9 B11 b c s o Own Inv (pre ++ L.take (i + 1)) w' ∧ w'.ownsRow base 54 4 (.slice (some ⟨gb, 0, none⟩) L.length cp) L.length (mvCells L) ∧ (∀ r, Value.ownBlock (.slice (some ⟨gb, 0, none⟩) L.length cp) = some r → ¬ Own w' r) ∧ OMarks Own N w' ds := by
      refine hcall.mono ?_
      rintro e w' ⟨rfl, hi2, hbl, hsv, hown⟩
      refine ⟨rfl, ?_, own_same hrow2 (hsv gb hgl2 hno2), ?_, hom2.step hsv hown⟩
      · rw [htk'.out, ← List.append_assoc] at *
        exact SStB.step hK hS2 hi2 hbl hsv hown
      · intro r hr
        injection hr with hr
        subst hr
        intro hk
        exact (hown gb hk).elim hno2 (fun hk => by omega)
    clear hR hS2 hrow2 hO2 hno2 hom2 hcall hgl2
    have hcall2' := Lib.hid hcall2
    have hX' := Lib.hid hX
    have hX2' := Lib.hid hX2
    have hb2' := Lib.hid hb2
    have hz2' := Lib.hid hz2
    clear hz2 hb2 hX2 hX hcall2
    cases goes with
    | true =>
      go_wp2_with (refine hcall2'.out.mono ?_; rintro e w' ⟨rfl, k1, k2, k3, k4⟩; have k1' := Lib.hid k1; have k2' := Lib.hid k2; have k3' := Lib.hid k3; have k4' := Lib.hid k4; clear k1 k2 k3 k4)
      exact hnext'.out hlt _ _ ⟨_, (i : Int) + 1, rfl, by simp, frame_mk _ _ (by kernel_rfl), k1'.out, k2'.out, k3'.out, k4'.out, fun h => by cases h⟩
    | false =>
      go_wp2_with (refine hcall2'.out.mono ?_; rintro e w' ⟨rfl, k1, k2, k3, k4⟩; have k1' := Lib.hid k1; have k2' := Lib.hid k2; have k3' := Lib.hid k3; have k4' := Lib.hid k4; clear k1 k2 k3 k4)
      exact hret'.out hlt (by first | rfl | trivial) _ _ (hgo'.out (by first | rfl | trivial)) k1'.out k4'.out
  · have hie : i = L.length := by omega
    have hlz : ¬ (iz : Int) < (L.length : Int) := by omega
    have hR' := Lib.hid hR
    have hS' := Lib.hid hS
    have hrow' := Lib.hid hrow
    have hno' := Lib.hid hno
    have hom' := Lib.hid hom
    have hgo' := Lib.hid hgo
    have hnext' := Lib.hid hnext
    have hret' := Lib.hid hret
    have hiz' := Lib.hid hiz
    have hie' := Lib.hid hie
    have hend' := Lib.hid hend
    clear hend hie hiz hret hnext hgo hom hno hrow hS hR
    go_wp2
    exact hend'.out hie'.out _ _ ⟨_, iz, rfl, by rw [hiz'.out, hie'.out], frame_mk _ _ (by kernel_rfl), by rw [← hie'.out]; exact hS'.out, hrow'.out, hno'.out, hom'.out, by rw [← hie'.out]; exact hgo'.out⟩
theorem found_loop {p q : Prog} (goes : Bool) (Own : World → Nat → Prop) (Inv : List Mv → World → Prop) (N : Nat) (Ben : World → Prop) (w0 : World) (b c s o how g : Nat) (cb : Array Value) (st ov : Bool) (n k B4 B5 B9 B11 base : Nat) (pre L : List Mv) (v : Value) (ds : List Deferred) (a : Act) (W : World)
    (hR : Recv Try.prog N g cb goes Own Inv) (hK : BenOk p q b c N Own Ben) (hpl : pre.length + L.length ≤ 10000) (h : FSt goes Own Inv N Ben w0 b c s o how g cb st ov n k B4 B5 B9 B11 base pre L v ds 0 a W) (Q : Exit → Act → World → Prop)
    (hend : ∀ a' w', FSt goes Own Inv N Ben w0 b c s o how g cb st ov n k B4 B5 B9 B11 base pre L v ds L.length a' w' → Q (.exit 6) a' w')
    (hret : goes = false → ∀ i t' w', i < L.length → pre ++ L.take i = [] → SStB 72 3 N w0 Ben B4 B5 B9 B11 b c s o Own Inv (pre ++ L.take (i + 1)) w' → OMarks Own N w' ds → Q .ret { tmps := t', defers := ds } w') :
    (Code.loop fBody).wp Try.prog Q a W := by
  have hmu : ∀ i a' w', FSt goes Own Inv N Ben w0 b c s o how g cb st ov n k B4 B5 B9 B11 base pre L v ds i a' w' → (intOf (a'.tmps.getD 163 undef)).toNat = i := by
    rintro i a' w' ⟨t, iz, rfl, hiz, ⟨u, rfl⟩, _⟩
    show (intOf (Value.int .i64 iz)).toNat = i
    rw [hiz]
    simp [intOf]
  refine wp_loop (fun a' w' => ∃ i, i ≤ L.length ∧ FSt goes Own Inv N Ben w0 b c s o how g cb st ov n k B4 B5 B9 B11 base pre L v ds i a' w') (fun a' _ => L.length - (intOf (a'.tmps.getD 163 undef)).toNat) ⟨0, by omega, h⟩ ?_
  rintro a' w' ⟨i, hi, hF⟩
  refine found_round goes Own Inv N Ben w0 b c s o how g cb st ov n k B4 B5 B9 B11 base pre L v ds i a' w' hR hK hpl hi hF _ 0 ?_ ?_ ?_
  · intro hlt a2 w2 h2
    refine ⟨⟨i + 1, by omega, h2⟩, ?_⟩
    rw [hmu _ _ _ h2, hmu _ _ _ hF]
    omega
  · intro _ a2 w2 h2
    exact hend a2 w2 h2
  · intro hlt hg t' w2 h1 h2 h3
    exact hret hg i t' w2 hlt h1 h2 h3
end Go.Proofs.Ytbikpadjmmgpcaa
namespace Go.Proofs.Ytbikpadjmmgpcaa
open Go.RowKit Go.Shelf Go.Sort Go.Lib
set_option linter.unusedVariables false
set_option linter.unusedSimpArgs false
attribute [local go_sem] Oper.semAt_some
attribute [local go_sem ↓] Go.wp_at_zero Go.wp_at_succ
def SRel (p q : Prog) (goes : Bool) (Own : World → Nat → Prop) (Inv : List Mv → World → Prop) (N : Nat) (Ben : World → Prop) (w0 : World) (b c s o how g : Nat) (cb : Array Value) (st ov : Bool) (n B4 B5 B9 B11 : Nat) (k : Nat) (a : Act) (W : World) : Prop :=
  ∃ (t : Array Value) (ds : List Deferred) (iz : Int), a = { tmps := t, defers := ds } ∧ iz = k ∧ (∃ u : Nat → Value, t = #[(u 0), (u 1), .int .u8 how, .func (.func g) #[] cb, .pointer (some ⟨B4, 0, none⟩), .pointer (some ⟨B5, 0, none⟩), (u 6), (u 7), .int .i64 (n : Nat), .pointer (some ⟨B9, 0, none⟩), .bool st, .pointer (some ⟨B11, 0, none⟩), .bool ov, (u 13), (u 14), (u 15), (u 16), (u 17), (u 18), (u 19), (u 20), (u 21), (u 22), (u 23), (u 24), (u 25), (u 26), (u 27), (u 28), (u 29), (u 30), (u 31), (u 32), (u 33), (u 34), (u 35), (u 36), (u 37), (u 38), (u 39), (u 40), (u 41), (u 42), (u 43), (u 44), (u 45), (u 46), (u 47), (u 48), (u 49), (u 50), (u 51), (u 52), (u 53), (u 54), (u 55), (u 56), (u 57), (u 58), (u 59), (u 60), (u 61), (u 62), (u 63), .int .i64 (n : Nat), .int .i64 iz, (u 66), (u 67), (u 68), (u 69), (u 70), (u 71), (u 72), (u 73), (u 74), (u 75), (u 76), (u 77), (u 78), (u 79), (u 80), (u 81), (u 82), (u 83), (u 84), (u 85), (u 86), (u 87), (u 88), (u 89), (u 90), (u 91), (u 92), (u 93), (u 94), (u 95), (u 96), (u 97), (u 98), (u 99), (u 100), (u 101), (u 102), (u 103), (u 104), (u 105), (u 106), (u 107), (u 108), (u 109), (u 110), (u 111), (u 112), (u 113), (u 114), (u 115), (u 116), (u 117), (u 118), (u 119), (u 120), (u 121), (u 122), (u 123), (u 124), (u 125), (u 126), (u 127), (u 128), (u 129), (u 130), (u 131), (u 132), (u 133), (u 134), (u 135), (u 136), (u 137), (u 138), (u 139), (u 140), (u 141), (u 142), (u 143), (u 144), (u 145), (u 146), (u 147), (u 148), (u 149), (u 150), (u 151), (u 152), (u 153), (u 154), (u 155), (u 156), (u 157), (u 158), (u 159), (u 160), (u 161), (u 162), (u 163), (u 164), (u 165), (u 166), (u 167), (u 168), (u 169), (u 170), (u 171), (u 172)]) ∧ SStB 72 3 N w0 Ben B4 B5 B9 B11 b c s o Own Inv (preMv p q how n k) W ∧
    OMarks Own N W ds ∧ (goes = false → preMv p q how n k = [])
theorem wp_two {P : Program} {cc : Code} {Q : Exit → Act → World → Prop} {a : Act} {W : World} {o1 o2 : Obj} (h : ∀ W1, Below W.heap.size W W1 → W1.heap[W.heap.size]? = some o1 → W1.heap[W.heap.size + 1]? = some o2 → W1.heap.size = W.heap.size + 2 → cc.wp P Q a W1) : cc.wp P Q a ((W.alloc o1).alloc o2) :=
  h _ (alc2 _ _ _) ((Below.heap_alloc _ _ _ (by simp)).trans (heap_alloc_new _ _)) (by have h := heap_alloc_new (W.alloc o1) o2; rw [World.size_alloc] at h; exact h) (by simp)
theorem cutMv_length (p q : Prog) (how n k : Nat) : (cutMv p q how n k).length ≤ 4 := by
  unfold cutMv; rw [sortMv_length]; exact kindsMv_le p q how n k 4
theorem preMv_length (p q : Prog) (how n : Nat) : ∀ k, (preMv p q how n k).length ≤ 4 * k := by
  intro k
  induction k with
  | zero => simp [preMv]
  | succ k ih => rw [preMv_succ, List.length_append]; have := cutMv_length p q how n k; omega
theorem OMarks.more {P : Program} {n0 g : Nat} {cb : Array Value} {goes : Bool} {Own : World → Nat → Prop} {Inv : List Mv → World → Prop} {pre : List Mv} {B : Nat} {W1 W' : World} (hR : Recv P n0 g cb goes Own Inv) (hI : Inv pre W1) (hb : Below W1.heap.size W1 W') (hB : B ≤ W1.heap.size) {ds0 : List Deferred} (h0 : OMarks Own B W1 ds0) :
    ∀ {ds : List Deferred}, Marks W1.heap.size W' ds → OMarks Own B W' (ds ++ ds0)
  | [], _ => OMarks.next hR hI h0 hb
  | d :: ds, ⟨⟨D, hd, hD1, hD, hne⟩, hr⟩ => by
    refine ⟨⟨D, hd, by omega, hD, fun hk => ?_, fun d' hd' e => ?_⟩, OMarks.more hR hI hb hB h0 hr⟩
    · have h1 := (hR.frame _ _ _ hI hb.size (fun k hk => hb.block k (hR.own _ _ k hI hk).2)).2 D hk
      have := (hR.own _ _ D hI h1).2
      omega
    · rcases List.mem_append.1 hd' with h | h
      · exact hne d' h e
      · obtain ⟨D', h1, h2⟩ := h0.lt d' h
        rw [hd, h1] at e
        injection e with e1
        injection e1 with e1
        omega
set_option maxRecDepth 1000000 in
set_option maxHeartbeats 2000000 in
theorem search_round (p q : Prog) (hp : BenchFacts p) (hq : BenchFacts q) (goes : Bool) (Own : World → Nat → Prop) (Inv : List Mv → World → Prop) (N : Nat) (Ben : World → Prop) (w0 : World) (b c s o how g : Nat) (cb : Array Value) (st ov : Bool) (n B4 B5 B9 B11 : Nat) (k : Nat) (a : Act) (W : World)
    (hR : Recv Try.prog N g cb goes Own Inv) (hK : BenOk p q b c N Own Ben) (hn : n ≤ 1152) (hn0 : 0 < n) (hs : s ≤ 1000000) (ho : o ≤ 1000000) (hs1 : s = offV p q false) (ho1 : o = offV p q true) (hst : st = offB p q false) (hov : ov = offB p q true) (hhow : how ≤ 3)
    (hk : k ≤ n) (h : SRel p q goes Own Inv N Ben w0 b c s o how g cb st ov n B4 B5 B9 B11 k a W) (Q : Exit → Act → World → Prop)
    (hnext : k < n → ∀ a' w', SRel p q goes Own Inv N Ben w0 b c s o how g cb st ov n B4 B5 B9 B11 (k + 1) a' w' → Q .normal a' w')
    (hend : k = n → ∀ a' w', SRel p q goes Own Inv N Ben w0 b c s o how g cb st ov n B4 B5 B9 B11 n a' w' → Q (.exit 0) a' w')
    (hret : goes = false → k < n → ∀ i t' ds w', i < (cutMv p q how n k).length → preMv p q how n k ++ (cutMv p q how n k).take i = [] → SStB 72 3 N w0 Ben B4 B5 B9 B11 b c s o Own Inv (preMv p q how n k ++ (cutMv p q how n k).take (i + 1)) w' → OMarks Own N w' ds → Q .ret { tmps := t', defers := ds } w') :
    sBody.wp Try.prog Q a W := by
  obtain ⟨t, ds, iz, rfl, hiz, ⟨u, rfl⟩, hS, hom, hgo⟩ := h
  conv => arg 2; whnf
  by_cases hlt : k < n
  · subst hiz
    have hlz : ((k : Int)) < (n : Int) := by omega
    clear hend
    have hR' := Lib.hid hR
    have hS' := Lib.hid hS
    have hom' := Lib.hid hom
    have hgo' := Lib.hid hgo
    have hnext' := Lib.hid hnext
    have hret' := Lib.hid hret
    have hs1' := Lib.hid hs1
    have ho1' := Lib.hid ho1
    have hst' := Lib.hid hst
    have hov' := Lib.hid hov
    clear hov hst ho1 hs1 hret hnext hgo hom hS hR
    go_wp2
    go_step3
    go_wp2
    go_step3
    go_wp2
    refine wp_two ?_
    intro W1 hb1 hB13 hKB hz1
    obtain ⟨X, hX⟩ : ∃ X, W.heap.size = X := ⟨_, rfl⟩
    rw [hX] at hB13 hKB hz1 ⊢
    have hR := hR'.out
    have hS1 := SStB.next hK hR hS'.out hb1
    have hom1 := OMarks.next hR hS'.out.inv hom'.out hb1
    have hE1 : KEnv p q b c B4 B5 B9 B11 X s o k W1 := ⟨hK.one _ hS1.ben, hK.two _ hS1.ben, hS1.b4.1, hS1.b5.1, hS1.b9.1, hS1.b11.1, hB13⟩
    refine kinds_loop p q hp hq b c B4 B5 B9 B11 X s o k (X + 1) how g n cb st ov W1 ds _ hn hn0 (by omega) hs ho hs1'.out ho1'.out hst'.out hov'.out hhow hE1 hKB ?_ _ ?_
    · exact ⟨_, [], .slice none 0 0, 0, rfl, rfl, frame_mk _ _ (by kernel_rfl), Below.refl _ _, trivial, World.ownsRow_nil _ _ _ _⟩
    rintro a2 W2 ⟨t2, ds2, v, iz2, rfl, hiz2, ⟨u2, rfl⟩, hb2, hm2, hrow2⟩
    have hS2 := SStB.next hK hR hS1 hb2
    have hom2 := OMarks.more hR hS1.inv hb2 hS1.nle hom1 hm2
    have hL4 := kindsMv_le p q how n k 4
    have hsort := sort_row W1.heap.size v (kindsMv p q how n k 4) W2 hrow2 (by omega)
    have hcut : sortMv (kindsMv p q how n k 4) = cutMv p q how n k := rfl
    rw [hcut] at hsort
    have hbs := hS1.nle
    have hvl := hrow2.lt
    have hO1 : ∀ W', Below W1.heap.size W1 W' → ∀ r, Own W' r → r < W1.heap.size := fun W' hb r hr => (hR.own _ W1 r hS1.inv ((hR.frame _ W1 W' hS1.inv hb.size (fun k hk => hb.block k (hR.own _ W1 k hS1.inv hk).2)).2 r hr)).2
    have hm2' := hm2
    have hlenc : (sortMv (kindsMv p q how n k 4)).length = (kindsMv p q how n k 4).length := sortMv_length _
    rw [hcut] at hlenc
    have hsort2 : Calls Try.prog 62 #[v, .func (.func 63) #[] #[]] W2 fun e w' => e = .returned (.tuple #[]) ∧ SStB 72 3 N w0 Ben B4 B5 B9 B11 b c s o Own Inv (preMv p q how n k) w' ∧ w'.ownsRow W1.heap.size 54 4 v (cutMv p q how n k).length (mvCells (cutMv p q how n k)) ∧ (∀ r, v.ownBlock = some r → ¬ Own w' r) ∧ OMarks Own N w' (ds2 ++ ds) := by
      refine hsort.mono ?_
      rintro e w' ⟨rfl, hr, hg⟩
      have hb3 : Below W1.heap.size W1 w' := hb2.grown hg hb2.size (fun k e => (hvl k e).1)
      have hm3 : Marks W1.heap.size w' ds2 := hm2.keep fun D _ hD => (hg.block D (Array.getElem?_eq_some_iff.1 hD).1 (own_ne hrow2 hD)).trans hD
      exact ⟨rfl, SStB.next hK hR hS1 hb3, hr, fun r hv hk => by have := hO1 w' hb3 r hk; have := (hvl r hv).1; omega, OMarks.more hR hS1.inv hb3 hbs hom1 hm3⟩
    have hv3 : ∃ A cp, v = .slice A (cutMv p q how n k).length cp := by
      rw [hlenc]
      rcases hrow2.2 with ⟨rfl, h0⟩ | ⟨g', cap, cur, rfl, _⟩
      · exact ⟨none, 0, by rw [h0]⟩
      · exact ⟨_, cap, rfl⟩
    obtain ⟨vA, vc, rfl⟩ := hv3
    have hpre4 := preMv_length p q how n k
    have hcut4 := cutMv_length p q how n k
    clear hsort hrow2 hm2 hm2' hom2 hS2 hO1 hvl hom1 hS1 hE1 hKB hB13 hb1 hcut hL4
    have hsort2' := Lib.hid hsort2
    have hlenc' := Lib.hid hlenc
    have hX' := Lib.hid hX
    have hz1' := Lib.hid hz1
    have hbs' := Lib.hid hbs
    have hb2' := Lib.hid hb2
    have hiz2' := Lib.hid hiz2
    clear hiz2 hb2 hbs hz1 hX hlenc hsort2
    go_wp2_with (first | (go_at_call 62; refine hsort2'.out.mono ?_; rintro e w' ⟨rfl, k1, k2, k3, k4⟩; have k1' := Lib.hid k1; have k2' := Lib.hid k2; have k3' := Lib.hid k3; have k4' := Lib.hid k4; clear k1 k2 k3 k4))
    refine found_loop goes Own Inv N Ben w0 b c s o how g cb st ov n k B4 B5 B9 B11 W1.heap.size (preMv p q how n k) (cutMv p q how n k) (.slice vA (cutMv p q how n k).length vc) (ds2 ++ ds) _ w' hR hK (by omega) ?_ _ ?_ ?_
    · exact ⟨_, 0, rfl, rfl, frame_mk _ _ (by kernel_rfl), by rw [List.take_zero, List.append_nil]; exact k1'.out, k2'.out, k3'.out, k4'.out, by rw [List.take_zero, List.append_nil]; exact hgo'.out⟩
    · rintro a3 W3 ⟨t3, iz3, rfl, hiz3, ⟨u3, rfl⟩, hS3, _, _, hom3, hgo3⟩
      rw [List.take_of_length_le (Nat.le_refl _), ← preMv_succ] at hS3 hgo3
      have hS3' := Lib.hid hS3
      have hom3' := Lib.hid hom3
      have hgo3' := Lib.hid hgo3
      have hiz3' := Lib.hid hiz3
      clear hiz3 hgo3 hom3 hS3
      go_wp2
      rw [Exit.noGoto_normal]
      go_wp2
      exact hnext'.out hlt _ _ ⟨_, _, (k : Int) + 1, rfl, by simp, frame_mk _ _ (by kernel_rfl), hS3'.out, hom3'.out, hgo3'.out⟩
    · intro hg i t' w3 hi h1 h2 h3
      exact hret'.out hg hlt i t' _ w3 hi h1 h2 h3
  · have hie : k = n := by omega
    have hlz : ¬ (iz : Int) < (n : Int) := by omega
    have hR' := Lib.hid hR
    have hS' := Lib.hid hS
    have hom' := Lib.hid hom
    have hgo' := Lib.hid hgo
    have hnext' := Lib.hid hnext
    have hret' := Lib.hid hret
    have hiz' := Lib.hid hiz
    have hie' := Lib.hid hie
    have hend' := Lib.hid hend
    have hs1' := Lib.hid hs1
    have ho1' := Lib.hid ho1
    have hst' := Lib.hid hst
    have hov' := Lib.hid hov
    clear hov hst ho1 hs1 hend hie hiz hret hnext hgo hom hS hR
    go_wp2
    exact hend'.out hie'.out _ _ ⟨_, _, iz, rfl, by rw [hiz'.out, hie'.out], frame_mk _ _ (by kernel_rfl), by have h := hS'.out; rw [hie'.out] at h; exact h, hom'.out, by have h := hgo'.out; rw [hie'.out] at h; exact h⟩
end Go.Proofs.Ytbikpadjmmgpcaa
namespace Go.Proofs.Ytbikpadjmmgpcaa
open Go.RowKit Go.Shelf Go.Sort Go.Lib
set_option linter.unusedVariables false
set_option linter.unusedSimpArgs false
attribute [local go_sem] Oper.semAt_some
attribute [local go_sem ↓] Go.wp_at_zero Go.wp_at_succ
theorem preMv_more (p q : Prog) (how n k : Nat) : ∀ d, ∃ r, preMv p q how n (k + d) = preMv p q how n k ++ r := by
  intro d
  induction d with
  | zero => exact ⟨[], by simp⟩
  | succ d ih =>
    obtain ⟨r, hr⟩ := ih
    exact ⟨r ++ cutMv p q how n (k + d), by rw [← Nat.add_assoc, preMv_succ, hr, List.append_assoc]⟩
theorem got_first {p q : Prog} {how n k i : Nat} (hk : k < n) (hi : i < (cutMv p q how n k).length) (h : preMv p q how n k ++ (cutMv p q how n k).take i = []) (ha : allMv p q how = preMv p q how n n) :
    preMv p q how n k ++ (cutMv p q how n k).take (i + 1) = gotMv false (allMv p q how) := by
  obtain ⟨h1, h2⟩ := List.append_eq_nil_iff.1 h
  have hi0 : i = 0 := by
    have h3 := congrArg List.length h2
    rw [List.length_take, List.length_nil] at h3
    omega
  subst hi0
  obtain ⟨r, hr⟩ := preMv_more p q how n (k + 1) (n - (k + 1))
  rw [show k + 1 + (n - (k + 1)) = n by omega, preMv_succ, h1, List.nil_append] at hr
  rw [h1, ha, hr]
  unfold gotMv
  rw [List.nil_append, if_neg (by decide), List.take_append_of_le_length (by omega)]
theorem offV_le (p q : Prog) (m : Bool) (h : 1 ≤ per p) : offV p q m ≤ per p := by
  unfold offV
  split
  · exact Nat.le_of_lt (Nat.mod_lt _ h)
  · omega
theorem inv_leave {n0 g : Nat} {cb : Array Value} {goes : Bool} {Own : World → Nat → Prop} {Inv : List Mv → World → Prop} {pre : List Mv} {W w9 : World} (hR : Recv Try.prog n0 g cb goes Own Inv) (hI : Inv pre W) (hs : W.heap.size ≤ w9.heap.size) (hk : ∀ (k : Nat) (o : Obj), W.heap[k]? = some o → o.isCells = true → w9.heap[k]? = some o) : Inv pre w9 :=
  (hR.frame pre W w9 hI hs fun k h => by obtain ⟨o, ho, hc⟩ := hR.cells pre W k hI h; exact (hk k o ho hc).trans ho.symm).1
set_option maxRecDepth 100000 in
set_option maxHeartbeats 1000000 in
theorem pf_searchB (p q : Prog) (b c how : Nat) (g : Nat) (cb : Array Value) (goes : Bool) (Own : World → Nat → Prop) (Inv : List Mv → World → Prop) (N : Nat) (Ben : World → Prop) (wz w : World) (hK : BenOk p q b c N Own Ben) (hben : Ben w) (hp : BenchFacts p) (hq : BenchFacts q) (hhow : how ≤ 3)
    (hR : Recv Try.prog N g cb goes Own Inv) (hwz0 : Below N wz w) (hnz : N ≤ w.heap.size) (hI : Inv [] w) :
    Calls Try.prog 39 #[.pointer (some ⟨b, 0, none⟩), .pointer (some ⟨c, 0, none⟩), .int .u8 how, .func (.func g) #[] cb] w fun e w' => e = .returned (.tuple #[]) ∧ Below N wz w' ∧ Inv (gotMv goes (allMv p q how)) w' := by
  have hw : Below w.heap.size w w := Below.refl _ _
  have hb0 := hK.one _ hben
  have hc0 := hK.two _ hben
  have hB := Lib.hid hb0
  have hC := Lib.hid hc0
  have hbl := hb0.lt
  have hcl := hc0.lt
  have hwz := hw.size
  obtain ⟨_, _, -, -, -, -, -, -, -, c7, -, c9⟩ := hb0.cells
  obtain ⟨_, _, -, -, -, -, -, -, -, d7, -, d9⟩ := hc0.cells
  replace c9 : w.cell? ⟨b, 9, none⟩ = some (.int .i64 (per p)) := c9
  replace d9 : w.cell? ⟨c, 9, none⟩ = some (.int .i64 (per q)) := d9
  have hcells : ∀ W, Below w.heap.size w W → (W.cell? ⟨b, 7, none⟩ = some (.int .i64 p.ros.length) ∧ W.cell? ⟨b, 9, none⟩ = some (.int .i64 (per p))) ∧ (W.cell? ⟨c, 7, none⟩ = some (.int .i64 q.ros.length) ∧ W.cell? ⟨c, 9, none⟩ = some (.int .i64 (per q))) := fun W h =>
    ⟨⟨(h.cell (p := ⟨b, 7, none⟩) hbl).trans c7, (h.cell (p := ⟨b, 9, none⟩) hbl).trans c9⟩, (h.cell (p := ⟨c, 7, none⟩) hcl).trans d7, (h.cell (p := ⟨c, 9, none⟩) hcl).trans d9⟩
  have hpr := hp.ros1
  have hqr := hq.ros1
  have hpp := per_pos hp
  have hqp := per_pos hq
  have hc1 := (close_le hp).2.2
  have hc2 := (close_le hq).2.2
  have hcl1 : ∀ W, Below w.heap.size w W → Calls Try.prog 36 #[.pointer (some ⟨b, 0, none⟩)] W fun e w' => e = .returned (.int .i64 (closeN p)) ∧ ∃ k, w' = W.drewN k := fun W h => pf_closes b p W (hb0.below h) hp
  have hcl2 : ∀ W, Below w.heap.size w W → Calls Try.prog 36 #[.pointer (some ⟨c, 0, none⟩)] W fun e w' => e = .returned (.int .i64 (closeN q)) ∧ ∃ k, w' = W.drewN k := fun W h => pf_closes c q W (hc0.below h) hq
  clear hb0 hc0 c7 c9 d7 d9
  obtain ⟨W4, hW4, hz4, hb4, h4, h5⟩ : ∃ W4, (w.alloc (.cells #[.pointer (some ⟨b, 0, none⟩)] 72)).alloc (.cells #[.pointer (some ⟨c, 0, none⟩)] 72) = W4 ∧ W4.heap.size = w.heap.size + 2 ∧ Below w.heap.size w W4 ∧ W4.heap[w.heap.size]? = some (.cells #[.pointer (some ⟨b, 0, none⟩)] 72) ∧ W4.heap[w.heap.size + 1]? = some (.cells #[.pointer (some ⟨c, 0, none⟩)] 72) :=
    ⟨_, rfl, by simp, alc2 _ _ _, (Below.heap_alloc _ _ _ (by simp)).trans (heap_alloc_new _ _), by have h := heap_alloc_new (w.alloc (.cells #[.pointer (some ⟨b, 0, none⟩)] 72)) (.cells #[.pointer (some ⟨c, 0, none⟩)] 72); rw [World.size_alloc] at h; exact h⟩
  have hbW : Below w.heap.size w W4 := hw.trans (hb4.mono hwz)
  have t4 := cell0 h4
  have t5 := cell0 h5
  have hcells' := Lib.hid hcells
  have hcl1' := Lib.hid hcl1
  have hcl2' := Lib.hid hcl2
  have hR' := Lib.hid hR
  have hw' := Lib.hid hw
  have hI' := Lib.hid hI
  have hz4' := Lib.hid hz4
  have hb4' := Lib.hid hb4
  have h4' := Lib.hid h4
  have h5' := Lib.hid h5
  have hbW' := Lib.hid hbW
  have hpp' := Lib.hid hpp
  have hqp' := Lib.hid hqp
  have hc1' := Lib.hid hc1
  have hc2' := Lib.hid hc2
  clear hc2 hc1 hqp hpp hbW h5 h4 hb4 hz4 hI hw hR hcl2 hcl1 hcells
  refine (callsIn_wide (n := 5)).1 ?_
  refine callsIn_of_wp_marks Try.func39 rfl trivial ?_ rfl
  simp only [Try.ntmps39, List.size_toArray, List.length_cons, List.length_nil, Nat.reduceAdd, Nat.reduceSub, Array.replicate_succ, Array.replicate_zero, List.push_toArray, List.append_toArray, List.nil_append, List.cons_append]
  refine wpIn_wide.2 ?_
  go_wp2_with (first | (go_at_call 36; ((with_reducible refine (hcl1'.out _ hbW'.out).mono ?_); rintro e w' ⟨rfl, nd, rfl⟩)))
  clear hW4
  have h4 : (W4.drewN nd).heap[w.heap.size]? = _ := h4'.out
  have h5 : (W4.drewN nd).heap[w.heap.size + 1]? = _ := h5'.out
  have hz5 : (W4.drewN nd).heap.size = w.heap.size + 2 := hz4'.out
  have hb5 := below_drewN' hb4'.out nd
  have hbW5 := below_drewN' hbW'.out nd
  clear h4' h5' hz4' hb4' hbW' t4 t5
  generalize W4.drewN nd = W5 at h4 h5 hz5 hb5 hbW5 ⊢
  have t4 := cell0 h4
  have t5 := cell0 h5
  obtain ⟨⟨c7, c9⟩, ⟨d7, d9⟩⟩ := hcells'.out W5 hbW5
  have hbS : ∀ n, Below w.heap.size w (W5.drewN n) := fun n => below_drewN' hbW5 n
  obtain ⟨X1, hX1⟩ : ∃ X, ((p.ros.length : Int) != (q.ros.length : Int)) = X := ⟨_, rfl⟩
  obtain ⟨X2, hX2⟩ : ∃ X, ((per p : Int) != (per q : Int)) = X := ⟨_, rfl⟩
  obtain ⟨X3, hX3⟩ : ∃ X, ((closeN p : Int) != (closeN q : Int)) = X := ⟨_, rfl⟩
  have hearly : (X1 = true ∨ X2 = true ∨ X3 = true) → ∀ W, Below w.heap.size w W → Inv (gotMv goes (allMv p q how)) W := by
    intro h W hbw
    have hl : likeB p q = false := by
      unfold likeB
      rcases h with rfl | rfl | rfl
      · simp at hX1; simp; intro e; exact absurd (by exact_mod_cast e) hX1
      · simp at hX2; simp; intro _ e; exact absurd (by exact_mod_cast e) hX2
      · simp at hX3; simp; intro _ _ e; exact absurd (by exact_mod_cast e) hX3
    have ha : allMv p q how = [] := by unfold allMv; rw [hl]; rfl
    rw [ha, gotMv_nil]
    exact (hR'.out.frame [] w W hI'.out hbw.size (fun k hk => hbw.block k (hR'.out.own [] w k hI'.out hk).2)).1
  have h4' := Lib.hid h4
  have h5' := Lib.hid h5
  have hz5' := Lib.hid hz5
  have hb5' := Lib.hid hb5
  have hbW5' := Lib.hid hbW5
  have hbS' := Lib.hid hbS
  have hearly' := Lib.hid hearly
  clear hearly hbS hbW5 hb5 hz5 h5 h4
  cases X1 with
  | true =>
    go_wp2
    go_quiet (fail)
    have hI2 := hearly'.out (by simp) (W5.drewN nq) (below_drewN' hb5'.out nq)
    have hbel := hbS'.out nq
    generalize W5.drewN nq = W6 at hI2 hbel ⊢
    clear t4 t5 c7 c9 d7 d9
    go_wp2
    exact ⟨_, results_none rfl _ _ _, rfl, hwz0.trans (hbel.mono hnz), hI2⟩
  | false =>
    cases X2 with
    | true =>
      go_wp2
      go_quiet (fail)
      have hI2 := hearly'.out (by simp) (W5.drewN nq) (below_drewN' hb5'.out nq)
      have hbel := hbS'.out nq
      generalize W5.drewN nq = W6 at hI2 hbel ⊢
      clear t4 t5 c7 c9 d7 d9
      go_wp2
      exact ⟨_, results_none rfl _ _ _, rfl, hwz0.trans (hbel.mono hnz), hI2⟩
    | false =>
      cases X3 with
      | true =>
        go_wp2
        go_quiet (first | (go_at_call 36; with_reducible exact Calls.quiet_of (hcl2'.out _ (hbS'.out _))))
        have hI2 := hearly'.out (by simp) (W5.drewN nq) (below_drewN' hb5'.out nq)
        have hbel := hbS'.out nq
        generalize W5.drewN nq = W6 at hI2 hbel ⊢
        clear t4 t5 c7 c9 d7 d9
        go_wp2
        exact ⟨_, results_none rfl _ _ _, rfl, hwz0.trans (hbel.mono hnz), hI2⟩
      | false =>
        go_wp2
        go_quiet (first | (go_at_call 36; with_reducible exact Calls.quiet_of (hcl2'.out _ (hbS'.out _))))
        have hlen : p.ros.length = q.ros.length := by simp at hX1; exact_mod_cast hX1
        have hper : per p = per q := by simp at hX2; exact_mod_cast hX2
        have hclo : closeN p = closeN q := by simp at hX3; exact_mod_cast hX3
        have hof : ∀ (m : Bool) W, Below w.heap.size w W → Calls Try.prog 60 #[.pointer (some ⟨b, 0, none⟩), .pointer (some ⟨c, 0, none⟩), .bool m] W fun e w' => e = .returned (.tuple #[.int .i64 (offV p q m : Nat), .bool (offB p q m)]) ∧ Below W.heap.size W w' := fun m W h => pf_offset b c p q m W (hB.out.below h) (hC.out.below h) hp hq hlen
        have h4 : (W5.drewN nq).heap[w.heap.size]? = _ := h4'.out
        have h5 : (W5.drewN nq).heap[w.heap.size + 1]? = _ := h5'.out
        have hz6 : (W5.drewN nq).heap.size = w.heap.size + 2 := hz5'.out
        have hb6 := below_drewN' hb5'.out nq
        have hbW6 := hbS'.out nq
        clear h4' h5' hz5' hb5' hbW5' hbS' hearly' t4 t5 c7 c9 d7 d9
        generalize W5.drewN nq = W6 at h4 h5 hz6 hb6 hbW6 ⊢
        have t4 := cell0 h4
        have t5 := cell0 h5
        have hX1' := Lib.hid hX1
        have hX2' := Lib.hid hX2
        have hX3' := Lib.hid hX3
        have hlen' := Lib.hid hlen
        have hper' := Lib.hid hper
        have hclo' := Lib.hid hclo
        have hof' := Lib.hid hof
        have h4' := Lib.hid h4
        have h5' := Lib.hid h5
        have hz6' := Lib.hid hz6
        have hb6' := Lib.hid hb6
        have hbW6' := Lib.hid hbW6
        clear hbW6 hb6 hz6 h5 h4 hof hclo hper hlen hX3 hX2 hX1
        go_wp2_with (first | (go_at_call 60; ((with_reducible refine (hof'.out false _ hbW6'.out).mono ?_); rintro e w' ⟨rfl, hb⟩; have hb8 := hb.alloc hb.size (.cells #[.int .i64 (offV p q false : Nat)] 3); have h9 := alc_at w' (.cells #[.int .i64 (offV p q false : Nat)] 3); have hz9 := hb.size; have e4 := cell0 ((hb8.block _ (by have := hz6'.out; omega)).trans h4'.out); have e5 := cell0 ((hb8.block _ (by have := hz6'.out; omega)).trans h5'.out); clear hb t4 t5)))
        have hz8 : (w'.alloc (.cells #[.int .i64 (offV p q false : Nat)] 3)).heap.size = w'.heap.size + 1 := by simp
        generalize w'.alloc (.cells #[.int .i64 (offV p q false : Nat)] 3) = W8 at hb8 h9 e4 e5 hz8 ⊢
        generalize w'.heap.size = B9 at h9 hz9 hz8 ⊢
        clear w'
        have hbW8 := hbW6'.out.trans (hb8.mono hbW6'.out.size)
        have hb8' := Lib.hid hb8
        have h9' := Lib.hid h9
        have hz8' := Lib.hid hz8
        have hz9' := Lib.hid hz9
        have hbW8' := Lib.hid hbW8
        clear hbW8 hz9 hz8 h9 hb8
        clear e4 e5
        go_wp2_with (first | (go_at_call 60; ((with_reducible refine (hof'.out true _ hbW8'.out).mono ?_); rintro e w' ⟨rfl, hb⟩)))
        have hb10 := hb.alloc hb.size (.cells #[.int .i64 (offV p q true : Nat)] 3)
        have h11 := alc_at w' (.cells #[.int .i64 (offV p q true : Nat)] 3)
        have hz11 := hb.size
        have hz10 : (w'.alloc (.cells #[.int .i64 (offV p q true : Nat)] 3)).heap.size = w'.heap.size + 1 := by simp
        clear hb
        generalize w'.alloc (.cells #[.int .i64 (offV p q true : Nat)] 3) = W10 at hb10 h11 hz10 ⊢
        generalize w'.heap.size = B11 at h11 hz11 hz10 ⊢
        clear w'
        have hz8 := hz8'.out
        have hz9 := hz9'.out
        have hz6 := hz6'.out
        have hb810 : Below W6.heap.size W6 W10 := hb8'.out.trans (hb10.mono (by omega))
        have hbw10 : Below w.heap.size w W10 := hb6'.out.trans (hb810.mono (by omega))
        have hO10 : ∀ k, Own W10 k → Own w k := (hR'.out.frame [] w W10 hI'.out hbw10.size (fun k hk => hbw10.block k (hR'.out.own [] w k hI'.out hk).2)).2
        have hI10 : Inv [] W10 := (hR'.out.frame [] w W10 hI'.out hbw10.size (fun k hk => hbw10.block k (hR'.out.own [] w k hI'.out hk).2)).1
        have hOlt : ∀ k, Own W10 k → k < w.heap.size := fun k hk => (hR'.out.own [] w k hI'.out (hO10 k hk)).2
        obtain ⟨B4, hB4⟩ : ∃ B, w.heap.size = B := ⟨_, rfl⟩
        rw [hB4] at hz6 hOlt
        have h4 := h4'.out
        have h5 := h5'.out
        rw [hB4] at h4 h5
        have hst : SStB 72 3 N wz Ben B4 (B4 + 1) B9 B11 b c (offV p q false) (offV p q true) Own Inv [] W10 :=
          ⟨hwz0.trans (hbw10.mono hnz), Nat.le_trans hnz hbw10.size, hK.next w W10 hben hbw10, hI10, ⟨(hb810.block _ (by omega)).trans h4, fun h => by have := hOlt _ h; omega⟩, ⟨(hb810.block _ (by omega)).trans h5, fun h => by have := hOlt _ h; omega⟩, ⟨(hb10.block _ (by omega)).trans h9'.out, fun h => by have := hOlt _ h; omega⟩, ⟨h11, fun h => by have := hOlt _ h; omega⟩⟩
        have hbB : b < B4 := by omega
        have hcB : c < B4 := by omega
        rw [hB4]
        clear hb10 h11 hz11 hz10 hz8 hz9 hz6 hb810 hbw10 hO10 hI10 hOlt h4 h5 hb8' h9' hz8' hz9' hbW8' h4' h5' hz6' hb6' hbW6' hof' hcl1' hcl2'
        have hB4' := Lib.hid hB4
        clear hB4
        have hlike : allMv p q how = preMv p q how (closeN p) (closeN p) := by
          have hl : likeB p q = true := by unfold likeB; simp [hlen'.out, hper'.out, hclo'.out]
          unfold allMv
          rw [if_pos hl]
        have hob1 : offV p q false ≤ 1000000 := by have h1 := offV_le p q false hpp'.out.1; have h2 := hpp'.out.2.1; omega
        have hob2 : offV p q true ≤ 1000000 := by have h1 := offV_le p q true hpp'.out.1; have h2 := hpp'.out.2.1; omega
        refine wp_loop (fun a wr => ∃ k, k ≤ closeN p ∧ SRel p q goes Own Inv N Ben wz b c (offV p q false) (offV p q true) how g cb (offB p q false) (offB p q true) (closeN p) B4 (B4 + 1) B9 B11 k a wr) (fun a _ => closeN p - (intOf (a.tmps.getD 65 undef)).toNat) ?_ ?_
        · exact ⟨0, Nat.zero_le _, _, [], 0, rfl, rfl, frame_mk _ _ (by kernel_rfl), hst, trivial, fun _ => rfl⟩
        · clear hst
          rintro a wr ⟨k, hk, hS⟩
          have hmu : ∀ k a W, SRel p q goes Own Inv N Ben wz b c (offV p q false) (offV p q true) how g cb (offB p q false) (offB p q true) (closeN p) B4 (B4 + 1) B9 B11 k a W → (intOf (a.tmps.getD 65 undef)).toNat = k := by
            rintro k a W ⟨t, ds, iz, rfl, hiz, ⟨u, rfl⟩, _⟩
            show (intOf (Value.int .i64 iz)).toNat = k
            rw [hiz]
            simp [intOf]
          refine search_round p q hp hq goes Own Inv N Ben wz b c (offV p q false) (offV p q true) how g cb (offB p q false) (offB p q true) (closeN p) B4 (B4 + 1) B9 B11 k a wr hR'.out hK hc1'.out.2 hc1'.out.1 hob1 hob2 rfl rfl rfl rfl hhow hk hS _ ?_ ?_ ?_
          · intro hlt a2 w2 h2
            refine ⟨⟨k + 1, by omega, h2⟩, ?_⟩
            rw [hmu _ _ _ h2, hmu _ _ _ hS]
            omega
          · rintro hke a2 w2 ⟨t2, ds2, iz2, rfl, -, ⟨u2, rfl⟩, hS2, hom2, hgo2⟩
            have hfin : gotMv goes (allMv p q how) = preMv p q how (closeN p) (closeN p) := by
              rw [hlike]
              cases goes with
              | true => rfl
              | false => rw [hgo2 rfl]; rfl
            clear hS hmu
            have hlike' := Lib.hid hlike
            have hfin' := Lib.hid hfin
            have hS2' := Lib.hid hS2
            have hom2' := Lib.hid hom2
            have hgo2' := Lib.hid hgo2
            clear hgo2 hom2 hS2 hfin hlike
            go_wp2
            refine leaves_marks N ds2 w2 hom2'.out.marks fun w9 hb hkeep => ?_
            exact ⟨_, results_none rfl _ _ _, rfl, hS2'.out.below.trans hb, by rw [hfin'.out]; exact inv_leave hR'.out hS2'.out.inv hb.size hkeep⟩
          · rintro rfl hlt i t' ds2 w2 hi h1 h2 h3
            have hfin := got_first hlt hi h1 hlike
            rw [hfin] at h2
            clear hS hmu
            have hlike' := Lib.hid hlike
            have hfin' := Lib.hid hfin
            have h2' := Lib.hid h2
            have h3' := Lib.hid h3
            have h1' := Lib.hid h1
            clear h1 h3 h2 hfin hlike
            go_wp2
            refine leaves_marks N ds2 w2 h3'.out.marks fun w9 hb hkeep => ?_
            exact ⟨_, results_none rfl _ _ _, rfl, h2'.out.below.trans hb, inv_leave hR'.out h2'.out.inv hb.size hkeep⟩
theorem pf_search (p q : Prog) (b c how : Nat) (g : Nat) (cb : Array Value) (goes : Bool) (Own : World → Nat → Prop) (Inv : List Mv → World → Prop) (w0 w : World) (hb0 : IsBench w0 b p) (hc0 : IsBench w0 c q) (hp : BenchFacts p) (hq : BenchFacts q) (hhow : how ≤ 3)
    (hR : Recv Try.prog w0.heap.size g cb goes Own Inv) (hw : Below w0.heap.size w0 w) (hI : Inv [] w) :
    Calls Try.prog 39 #[.pointer (some ⟨b, 0, none⟩), .pointer (some ⟨c, 0, none⟩), .int .u8 how, .func (.func g) #[] cb] w fun e w' => e = .returned (.tuple #[]) ∧ Below w0.heap.size w0 w' ∧ Inv (gotMv goes (allMv p q how)) w' :=
  pf_searchB p q b c how g cb goes Own Inv w0.heap.size (fun W => Below w0.heap.size w0 W) w0 w ⟨fun W h => hb0.below h, fun W h => hc0.below h, fun W W' h hb => h.trans (hb.mono h.size), fun W W' h hb _ => h.trans hb⟩ hw hp hq hhow hR hw hw.size hI
end Go.Proofs.Ytbikpadjmmgpcaa
