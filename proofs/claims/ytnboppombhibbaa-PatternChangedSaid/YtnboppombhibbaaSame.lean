/- pattern.Same. pattern.Same. -/
import Derived.Test.YtnboppombhibbaaSym
import Derived.StillTailTactics
namespace Go.Proofs.Ytnboppombhibbaa
open Go.RowKit Go.Shelf Go.Sort Go.Lib
set_option linter.unusedVariables false
set_option linter.unusedSimpArgs false
attribute [local go_sem] Oper.semAt_some
attribute [local go_sem ↓] Go.wp_at_zero Go.wp_at_succ
def zeroMv : Mv := ⟨0, 0, false, false⟩
def lastMv (pre : List Mv) : Mv := pre.getLast?.getD zeroMv
def lastE (pre : List Mv) : Int := if pre.isEmpty then 6 else 0
/-- What Same keeps: the move found last, and the error. -/
def SameInv (B C : Nat) (pre : List Mv) (W : World) : Prop := W.heap[B]? = some (.cells #[.int .i64 (lastMv pre).cuts, .int .i64 (lastMv pre).turn, .bool (lastMv pre).mirror, .bool (lastMv pre).back] 68) ∧ W.heap[C]? = some (.cells #[.int .i64 (lastE pre)] 27)
def SameOwn (B C : Nat) (_ : World) (k : Nat) : Prop := k = B ∨ k = C
set_option maxRecDepth 100000 in
set_option maxHeartbeats 1000000 in
theorem same_call (B C : Nat) (pre : List Mv) (x : Mv) (W : World) (n0 : Nat) (hB : n0 ≤ B) (hC : n0 ≤ C) (hne : B ≠ C) (h : SameInv B C pre W) :
    Calls Try.prog 81 #[x.val, .pointer (some ⟨B, 0, none⟩), .pointer (some ⟨C, 0, none⟩)] W fun e w' => e = .returned (.bool false) ∧ SameInv B C (pre ++ [x]) w' ∧ Below n0 W w' ∧ Saves (SameOwn B C) W w' ∧ ∀ k, SameOwn B C w' k → SameOwn B C W k ∨ W.heap.size ≤ k := by
  obtain ⟨hb, hc⟩ := h
  have hl : lastMv (pre ++ [x]) = x := by simp [lastMv]
  have hle : lastE (pre ++ [x]) = 0 := by simp [lastE]
  unfold SameInv
  rw [hl, hle]
  obtain ⟨xc, xt, xm, xb⟩ := x
  show Calls Try.prog 81 #[.agg #[.int .i64 xc, .int .i64 xt, .bool xm, .bool xb], .pointer (some ⟨B, 0, none⟩), .pointer (some ⟨C, 0, none⟩)] W _
  have hBl := (Array.getElem?_eq_some_iff.1 hb).1
  have hCl := (Array.getElem?_eq_some_iff.1 hc).1
  generalize (lastMv pre).cuts = z0 at hb
  generalize (lastMv pre).turn = z1 at hb
  generalize (lastMv pre).mirror = z2 at hb
  generalize (lastMv pre).back = z3 at hb
  generalize lastE pre = z4 at hc
  obtain ⟨b0, b1, b2, b3⟩ := move_cells hb
  have c0 := cell0 hc
  have f0 := frozen0 hb 0
  have f1 := frozen0 hb 1
  have f2 := frozen0 hb 2
  have f3 := frozen0 hb 3
  have g0 := frozen0 hc 0
  have n1 : ¬ B = C := hne
  have n2 : ¬ C = B := fun e => hne e.symm
  have hb' := Lib.hid hb
  have hc' := Lib.hid hc
  have hl' := Lib.hid hl
  have hle' := Lib.hid hle
  clear hle hl hc hb
  go_enter Try.func81, Try.ntmps81
  go_wp2
  go_ret
  have hs4 := set4 (u0 := .int .i64 xc) (u1 := .int .i64 xt) (u2 := .bool xm) (u3 := .bool xb) hb'.out
  have hg4 := grown_set4 (u0 := .int .i64 xc) (u1 := .int .i64 xt) (u2 := .bool xm) (u3 := .bool xb) hBl
  have hc4 := (hg4.block C hCl (fun e => hne (by injection e with e; exact e.symm))).trans hc'.out
  generalize (((W.setCell ⟨B, 0, none⟩ (.int .i64 xc)).setCell ⟨B, 1, none⟩ (.int .i64 xt)).setCell ⟨B, 2, none⟩ (.bool xm)).setCell ⟨B, 3, none⟩ (.bool xb) = W4 at hs4 hg4 hc4 ⊢
  have hs5 : (W4.setCell ⟨C, 0, none⟩ (.int .i64 0)).heap[B]? = _ := (Below.heap_setCell W4 ⟨C, 0, none⟩ _ B hne).trans hs4
  have hc5 : (W4.setCell ⟨C, 0, none⟩ (.int .i64 0)).heap[C]? = some (.cells #[.int .i64 0] 27) := by rw [heap_setAt hc4]; rfl
  have hb5 : Below n0 W (W4.setCell ⟨C, 0, none⟩ (.int .i64 0)) := ((Below.refl n0 W).grown hg4 (by omega) (fun k e => by cases e; exact hB)).setCell (p := ⟨C, 0, none⟩) hC _
  have hk5 : ∀ k, k < W.heap.size → k ≠ B → k ≠ C → (W4.setCell ⟨C, 0, none⟩ (.int .i64 0)).heap[k]? = W.heap[k]? := fun k hk h1 h2 => (Below.heap_setCell W4 ⟨C, 0, none⟩ _ k h2).trans (hg4.block k hk (fun e => h1 (by injection e)))
  have hz5 : W.heap.size ≤ (W4.setCell ⟨C, 0, none⟩ (.int .i64 0)).heap.size := by have := hg4.size; simpa [World.setCell] using this
  generalize W4.setCell ⟨C, 0, none⟩ (.int .i64 0) = W5 at hs5 hc5 hb5 hk5 hz5 ⊢
  refine ⟨rfl, ⟨(Below.heap_alloc _ _ _ (Array.getElem?_eq_some_iff.1 hs5).1).trans hs5, (Below.heap_alloc _ _ _ (Array.getElem?_eq_some_iff.1 hc5).1).trans hc5⟩, hb5.alloc (by omega) _, ?_, fun k hk => .inl hk⟩
  intro k hk hno
  exact (Below.heap_alloc _ _ _ (by omega)).trans (hk5 k hk (fun e => hno (.inl e)) (fun e => hno (.inr e)))
theorem same_recv (n0 B C : Nat) (hB : n0 ≤ B) (hC : n0 ≤ C) (hne : B ≠ C) : Recv Try.prog n0 81 #[.pointer (some ⟨B, 0, none⟩), .pointer (some ⟨C, 0, none⟩)] false (SameOwn B C) (SameInv B C) where
  enters := enters_of Try.func81 (by kernel_rfl) rfl
  own := by
    rintro pre W k ⟨h1, h2⟩ (rfl | rfl)
    · exact ⟨hB, (Array.getElem?_eq_some_iff.1 h1).1⟩
    · exact ⟨hC, (Array.getElem?_eq_some_iff.1 h2).1⟩
  cells := by
    rintro pre W k ⟨h1, h2⟩ (rfl | rfl)
    · exact ⟨_, h1, rfl⟩
    · exact ⟨_, h2, rfl⟩
  frame := by
    rintro pre W W' ⟨h1, h2⟩ hs hk
    exact ⟨⟨(hk B (.inl rfl)).trans h1, (hk C (.inr rfl)).trans h2⟩, fun k h => h⟩
  call := fun pre x W h hl => same_call B C pre x W n0 hB hC hne h
def sameE (p q : Prog) (how : Nat) : Int := if progE p ≠ 0 then progE p else if progE q ≠ 0 then progE q else if 3 < how then 2 else lastE (gotMv false (allMv p q how))
def sameM (p q : Prog) (how : Nat) : Mv := if sameE p q how = 0 then lastMv (gotMv false (allMv p q how)) else zeroMv
theorem same_fin {w W1 : World} {B n : Nat} {v0 v1 v2 v3 : Value} {t : TypeId} (hx : W1.heap[B]? = some (.cells #[v0, v1, v2, v3] t)) (hb : Below n w W1) (hn : n ≤ B) (u0 u1 u2 u3 : Value) :
    ∃ W9, (((W1.setCell ⟨B, 0, none⟩ u0).setCell ⟨B, 1, none⟩ u1).setCell ⟨B, 2, none⟩ u2).setCell ⟨B, 3, none⟩ u3 = W9 ∧ (W9.cell? ⟨B, 0, none⟩ = some u0 ∧ W9.cell? ⟨B, 1, none⟩ = some u1 ∧ W9.cell? ⟨B, 2, none⟩ = some u2 ∧ W9.cell? ⟨B, 3, none⟩ = some u3) ∧ Below n w W9 :=
  ⟨_, rfl, move_cells (set4 hx), (((hb.setCell (p := ⟨B, 0, none⟩) hn u0).setCell (p := ⟨B, 1, none⟩) hn u1).setCell (p := ⟨B, 2, none⟩) hn u2).setCell (p := ⟨B, 3, none⟩) hn u3⟩
/-- What stands when the first program is at work: the boxes of the first move and of the error. -/
structure SameSt (w : World) (p q : Prog) (B C : Nat) (e : Int) (vq : Value) (Q : Nat) (W : World) : Prop where
  below : Below w.heap.size w W
  lb : w.heap.size ≤ B
  lc : B < C
  box : W.heap[B]? = some (.cells #[.int .i64 0, .int .i64 0, .bool false, .bool false] 68)
  err : W.heap[C]? = some (.cells #[.int .i64 e] 27)
theorem SameSt.next {w : World} {p q : Prog} {B C : Nat} {e : Int} {vq : Value} {Q : Nat} {W W' : World} (h : SameSt w p q B C e vq Q W) (hb : Below W.heap.size W W') : SameSt w p q B C e vq Q W' :=
  ⟨h.below.trans (hb.mono h.below.size), h.lb, h.lc, (hb.block _ (Array.getElem?_eq_some_iff.1 h.box).1).trans h.box, (hb.block _ (Array.getElem?_eq_some_iff.1 h.err).1).trans h.err⟩
theorem SameSt.put {w : World} {p q : Prog} {B C : Nat} {e : Int} {vq : Value} {Q : Nat} {W : World} (h : SameSt w p q B C e vq Q W) (e' : Int) : SameSt w p q B C e' vq Q (W.setCell ⟨C, 0, none⟩ (.int .i64 e')) :=
  ⟨h.below.setCell (p := ⟨C, 0, none⟩) (by have := h.lb; have := h.lc; show w.heap.size ≤ C; omega) _, h.lb, h.lc, (Below.heap_setCell W ⟨C, 0, none⟩ _ B (by have := h.lc; show B ≠ C; omega)).trans h.box, by rw [heap_setAt h.err]; rfl⟩
theorem SameSt.start {w w' : World} (p q : Prog) {a b : Array Value} (e : Int) (vq : Value) (Q : Nat) (hb : Below (((w.alloc (.cells a 24)).alloc (.cells b 24)).alloc (.cells #[.int .i64 0, .int .i64 0, .bool false, .bool false] 68)).heap.size (((w.alloc (.cells a 24)).alloc (.cells b 24)).alloc (.cells #[.int .i64 0, .int .i64 0, .bool false, .bool false] 68)) w') :
    SameSt w p q (w.heap.size + 1 + 1) w'.heap.size e vq Q (w'.alloc (.cells #[.int .i64 e] 27)) ∧ w'.heap[w.heap.size + 1]? = some (.cells b 24) := by
  have hsz := hb.size
  simp only [World.size_alloc] at hsz
  have hB := (alc3 w (.cells a 24) (.cells b 24) (.cells #[.int .i64 0, .int .i64 0, .bool false, .bool false] 68)).trans (hb.mono (by simp; omega))
  have hbx := (hb.block (w.heap.size + 1 + 1) (by simp)).trans (by have h := heap_alloc_new ((w.alloc (.cells a 24)).alloc (.cells b 24)) (.cells #[.int .i64 0, .int .i64 0, .bool false, .bool false] 68); simpa only [World.size_alloc] using h)
  refine ⟨⟨hB.alloc hB.size _, by omega, by omega, (Below.heap_alloc _ _ _ (by omega)).trans hbx, alc_at _ _⟩, ?_⟩
  refine (hb.block (w.heap.size + 1) (by simp)).trans ((Below.heap_alloc _ _ _ (by simp)).trans ?_)
  have h := heap_alloc_new (w.alloc (.cells a 24)) (.cells b 24)
  simpa only [World.size_alloc] using h
theorem SameSt.start0 {w w' : World} {a b : Array Value} (hb : Below (((w.alloc (.cells a 24)).alloc (.cells b 24)).alloc (.cells #[.int .i64 0, .int .i64 0, .bool false, .bool false] 68)).heap.size (((w.alloc (.cells a 24)).alloc (.cells b 24)).alloc (.cells #[.int .i64 0, .int .i64 0, .bool false, .bool false] 68)) w') :
    Below w.heap.size w w' ∧ w'.heap[w.heap.size + 1 + 1]? = some (.cells #[.int .i64 0, .int .i64 0, .bool false, .bool false] 68) ∧ w.heap.size + 1 + 1 < w'.heap.size := by
  have hsz := hb.size
  simp only [World.size_alloc] at hsz
  have hB := (alc3 w (.cells a 24) (.cells b 24) (.cells #[.int .i64 0, .int .i64 0, .bool false, .bool false] 68)).trans (hb.mono (by simp; omega))
  have hbx := (hb.block (w.heap.size + 1 + 1) (by simp)).trans (by have h := heap_alloc_new ((w.alloc (.cells a 24)).alloc (.cells b 24)) (.cells #[.int .i64 0, .int .i64 0, .bool false, .bool false] 68); simpa only [World.size_alloc] using h)
  exact ⟨hB, hbx, by omega⟩
set_option maxRecDepth 100000 in
set_option maxHeartbeats 4000000 in
theorem pf_mounted2 (v0 v1 v5 : Value) (p : Prog) (w : World) (h0 : Ints w v0 p.ros) (h1 : Ints w v1 p.rub) (h5 : Ints w v5 p.shifts) (hE : progE p = 0) :
    Calls Try.prog 51 #[.agg #[v0, v1, .int .i64 p.start, .int .i64 p.throw, .int .i64 p.adv, v5]] w fun e w' => ∃ (b : Nat) (vl : Value), e = .returned (.tuple #[.pointer (some ⟨b, 0, none⟩), .int .i64 0]) ∧ Below w.heap.size w w' ∧ w.heap.size ≤ b ∧ w'.heap[b]? = some (.cells (benchCells p v0 v1 v5 vl p.shifts.length) 89) ∧ w'.ownsRow w.heap.size 3 1 vl (liftL p.ros p.rub).length ((liftL p.ros p.rub).map vint) := by
  have hv0 := Lib.hid (show IsProg w (.agg #[v0, v1, .int .i64 p.start, .int .i64 p.throw, .int .i64 p.adv, v5]) p from ⟨v0, v1, v5, rfl, h0, h1, h5⟩)
  have hE' := Lib.hid hE
  · have hok := progE_zero hE'.out
    have h0' := Lib.hid h0
    have h1' := Lib.hid h1
    have h5' := Lib.hid h5
    obtain ⟨A0, c0, rfl, hc0, hm0, _, _⟩ := h0
    obtain ⟨A1, c1, rfl, hc1, hm1, _, _⟩ := h1
    obtain ⟨A5, c5, rfl, hc5, hm5, _, hr5⟩ := h5
    clear hE
    have hbo : bothE p.ros p.rub = 0 := by unfold bothE; rw [hok.1, hok.2.1]; rfl
    have hlo := Lib.hid (lift_ok hok.1 hok.2.1)
    go_enter Try.func51, Try.ntmps51
    go_wp2_with (first | (go_at_call 22; refine (pf_pat_Check _ p _ (hv0.out.below (alc1 _ _)) 0 hE'.out).mono ?_; rintro e w1 ⟨rfl, hb1⟩; obtain ⟨hB1, hz1, hx1, hY1⟩ := box_on hb1; obtain ⟨p0, p1, p2, p3, p4, p5⟩ := prog_cells hx1; clear hb1) | (go_at_call 47; refine (pf_ros_Lift _ _ p.ros p.rub _ (h0'.out.below hB1) (h1'.out.below hB1) 0 hbo).mono ?_; rintro e w2 ⟨vl, rfl, hb2, ho2, -⟩; have hB2 := hB1.trans (hb2.mono hY1); have hx2 := (hb2.block w.heap.size hz1).trans hx1; have hz2 := Nat.lt_of_lt_of_le hz1 hb2.size; have hl2 := Lib.hid (Arr.of_own (ho2 rfl)); have hw2 := Lib.hid (own_base (ho2 rfl) hB1.size); obtain ⟨lA, lc, hvl, hlc, hlm, _, _⟩ := hl2.out; rw [liftL_length] at hvl hlc; subst hvl; clear ho2 hb2 hx1 hz1 hY1 p0 p1 p2 p3 p4 p5 hB1) | (go_at_call 42; refine (pf_ros_Period _ _ _ hl2.out hlo.out).mono ?_; rintro e w3 ⟨rfl, hb3⟩; have hB3 := hB2.trans (hb3.mono hB2.size); have hx3 := (hb3.block w.heap.size hz2).trans hx2; have hz3 := Nat.lt_of_lt_of_le hz2 hb3.size; have hl3 := Lib.hid (hl2.out.below hb3); have hw3 := Lib.hid (own_below hw2.out hb3); obtain ⟨p0, p1, p2, p3, p4, p5⟩ := prog_cells hx3; clear hb3 hx2 hz2 hl2 hB2))
    have hP := progB_iff.1 hok.2.2
    have hc12 := hP.2.2.2.1
    have hB3z := hB3.size
    have hros := (rosOk_iff.1 hok.1)
    go_loopw [48] (fun i wr => ∃ k : Nat, k ≤ p.shifts.length ∧ i = .int .i64 k ∧ Below w3.heap.size w3 wr ∧ w3.heap.size < wr.heap.size ∧
      Hid (wr.heap[w3.heap.size]? = some (.cells (benchCells p (.slice A0 p.ros.length c0) (.slice A1 p.rub.length c1) (.slice A5 p.shifts.length c5) (.slice lA p.ros.length lc) k) 89))) (fun i _ => p.shifts.length - (intOf i).toNat)
    case atStart => exact ⟨0, by omega, rfl, alc1 _ _, by simp, Lib.hid ((alc_at _ _).trans (by simp [benchCells, sumAt, sumTo]))⟩
    case round =>
      obtain ⟨k, hk, rfl, hbw, hwz, hcs⟩ := hrel
      by_cases hlt : k < p.shifts.length
      · obtain ⟨b, off, rfl, hbz, hck⟩ := (h5'.out.below (hB3.trans (hbw.mono hB3z))).look hlt
        obtain ⟨hk0, hk1⟩ := hP.2.2.2.2 k hlt
        have hbc := bench_sum hcs.out k (by omega)
        rw [show sumAt p.shifts k k = sumTo p.shifts k from if_pos (Nat.le_refl _)] at hbc
        have hbf := bench_frozen hcs.out
        have hsk := sumTo_le p.shifts p.ros.length (fun i hi => hP.2.2.2.2 i hi) k (by omega)
        generalize hx : p.shifts[k] = x at hck hk0 hk1
        have hx' := Lib.hid hx
        clear hx
        generalize hy : sumTo p.shifts k = y at hbc hsk
        have hy' := Lib.hid hy
        clear hy
        go_wp2
        have hi1 : (k : Int) < 13 := by omega
        have hi2 : (k : Int) + 1 < 13 := by omega
        have hi3 : (0 : Int) ≤ (k : Int) + 1 := by omega
        have hw0 : IntKind.i64.wrap (k : Int) = (k : Int) := IntWalk.i64_in _ (by omega)
        have hw1 : IntKind.i64.wrap ((k : Int) + 1) = (k : Int) + 1 := IntWalk.i64_in _ (by omega)
        have hyx : 0 ≤ y ∧ y ≤ 1152 := sum_small hsk hros.2.1 (by omega)
        have hw2 : IntKind.i64.wrap (y + x) = y + x := IntWalk.i64_in _ (by omega)
        go_still_tail 14, (by kernel_rfl)
        change wpList _ _ _ _ _ wr.drew
        have hbd : Below w3.heap.size w3 wr.drew := hbw.drew
        have hcd : Hid (wr.drew.heap[w3.heap.size]? = _) := hcs
        have hzd : w3.heap.size < wr.drew.heap.size := hwz
        clear hcs hbw hwz hbc hbf hck
        generalize wr.drew = w4 at hbd hcd hzd ⊢
        have hbn := bench_sum hcd.out (k + 1) (by omega)
        have hbf := bench_frozen hcd.out
        go_wp2
        go_roundw
        case rel => exact ⟨k + 1, by omega, by go_num, hbd.setCell (p := ⟨w3.heap.size, 10 + (k + 1), none⟩) (Nat.le_refl _) _, by simpa [World.setCell] using hzd, Lib.hid ((heap_setAt hcd.out).trans (by rw [← hx'.out, ← hy'.out, ← sumTo_succ _ _ hlt, bench_step _ _ _ _ _ _ (by omega)]))⟩
        case measure => simp [intOf]; omega
      · obtain rfl : k = p.shifts.length := by omega
        go_wp2
        go_ret2
        exact ⟨_, _, rfl, hB3.trans (hbw.mono hB3z), hB3z, hcs.out, own_below hw3.out hbw⟩
end Go.Proofs.Ytnboppombhibbaa
namespace Go.Proofs.Ytnboppombhibbaa
open Go.RowKit Go.Shelf Go.Sort Go.Lib
set_option linter.unusedVariables false
set_option linter.unusedSimpArgs false
attribute [local go_sem] Oper.semAt_some
attribute [local go_sem ↓] Go.wp_at_zero Go.wp_at_succ
/-- The two benches that search works upon while the boxes C and X change. -/
structure Bth (w' w2 : World) (C b2 g : Nat) (W : World) : Prop where
  below : Below C w' W
  size : w2.heap.size ≤ W.heap.size
  one : W.heap[b2]? = w2.heap[b2]?
  two : W.heap[g]? = w2.heap[g]?
theorem Bth.next {w' w2 : World} {C b2 g : Nat} {W W' : World} (h : Bth w' w2 C b2 g W) (hC : w'.heap.size = C) (h2 : b2 < w2.heap.size) (hg : g < w2.heap.size) (hb : Below W.heap.size W W') : Bth w' w2 C b2 g W' :=
  ⟨h.below.trans (hb.mono (by have := h.below.size; omega)), Nat.le_trans h.size hb.size, (hb.block _ (by have := h.size; omega)).trans h.one, (hb.block _ (by have := h.size; omega)).trans h.two⟩
theorem Bth.put {w' w2 : World} {C b2 g : Nat} {W : World} (h : Bth w' w2 C b2 g W) (hb : C < b2) (hg : C < g) (v : Value) : Bth w' w2 C b2 g (W.setCell ⟨C, 0, none⟩ v) :=
  ⟨h.below.setCell (p := ⟨C, 0, none⟩) (Nat.le_refl _) _, by have := h.size; simpa [World.setCell] using this, (Below.heap_setCell W ⟨C, 0, none⟩ _ b2 (by show b2 ≠ C; omega)).trans h.one, (Below.heap_setCell W ⟨C, 0, none⟩ _ g (by show g ≠ C; omega)).trans h.two⟩
theorem Bth.save {w' w2 : World} {C b2 g X : Nat} {W W' : World} (h : Bth w' w2 C b2 g W) (hb : C < b2) (hg : C < g) (h2 : b2 < w2.heap.size) (hg2 : g < w2.heap.size) (hX : w2.heap.size ≤ X) (hbl : Below C W W') (hs : Saves (SameOwn X C) W W') : Bth w' w2 C b2 g W' :=
  ⟨h.below.trans hbl, Nat.le_trans h.size hbl.size, (hs _ (by have := h.size; omega) (by rintro (rfl | rfl) <;> omega)).trans h.one, (hs _ (by have := h.size; omega) (by rintro (rfl | rfl) <;> omega)).trans h.two⟩
/-- The second bench stands in every world that keeps its block and the row of its lift. -/
theorem two_bench {w2 : World} {b2 C : Nat} {q : Prog} {u0 u1 u5 vl : Value} {w' : World} (hC : w'.heap.size = C) (k0 : Ints w' u0 q.ros) (k1 : Ints w' u1 q.rub) (k5 : Ints w' u5 q.shifts) (hb2 : C < b2) (hcs : w2.heap[b2]? = some (.cells (benchCells q u0 u1 u5 vl q.shifts.length) 89)) (how : w2.ownsRow (C + 1) 3 1 vl (liftL q.ros q.rub).length ((liftL q.ros q.rub).map vint)) :
    ∃ g, C < g ∧ g < w2.heap.size ∧ ∀ W, Bth w' w2 C b2 g W → IsBench W b2 q := by
  subst hC
  have hl2 := (Array.getElem?_eq_some_iff.1 hcs).1
  obtain ⟨h1, h2⟩ := how
  rcases h2 with ⟨rfl, h0⟩ | ⟨g, cap, cur, rfl, hbg, hg, r⟩
  · exact ⟨b2, hb2, hl2, fun W h => ⟨u0, u1, u5, _, h.one.trans hcs, k0.below h.below, k1.below h.below, k5.below h.below, by rw [List.length_eq_zero_iff.1 h0]; exact Arr.nil _ _⟩⟩
  · exact ⟨g, by omega, (Array.getElem?_eq_some_iff.1 hg).1, fun W h => ⟨u0, u1, u5, _, h.one.trans hcs, k0.below h.below, k1.below h.below, k5.below h.below, Arr.of_own (base := w'.heap.size + 1) (e := 3) ⟨h1, .inr ⟨g, cap, cur, rfl, hbg, h.two.trans hg, r⟩⟩⟩⟩
theorem lastMv_nil : lastMv [] = zeroMv := rfl
theorem sameM_eq {p q : Prog} {how : Nat} (hp : progE p = 0) (hq : progE q = 0) (hh : how ≤ 3) : sameM p q how = lastMv (gotMv false (allMv p q how)) ∧ sameE p q how = lastE (gotMv false (allMv p q how)) := by
  have h1 : sameE p q how = lastE (gotMv false (allMv p q how)) := by unfold sameE; rw [if_neg (by simpa using hp), if_neg (by simpa using hq), if_neg (by omega)]
  refine ⟨?_, h1⟩
  unfold sameM
  rw [h1]
  generalize gotMv false (allMv p q how) = L
  cases L with
  | nil => rfl
  | cons a l => simp [lastE]
set_option maxRecDepth 100000 in
set_option maxHeartbeats 2000000 in
theorem pf_pat_Same (vp vq : Value) (p q : Prog) (how : Nat) (w : World) (hvp : IsProg w vp p) (hvq : IsProg w vq q) (E : Int) (hE : sameE p q how = E) :
    Calls Try.prog 45 #[vp, vq, .int .u8 how] w fun e w' => e = .returned (.tuple #[(sameM p q how).val, .int .i64 E]) ∧ Below w.heap.size w w' := by
  have hp0 := Lib.hid hvp
  have hq0 := Lib.hid hvq
  obtain ⟨v0, v1, v5, rfl, h0, h1, h5⟩ := hvp
  obtain ⟨u0, u1, u5, rfl, k0, k1, k5⟩ := hvq
  clear h0 h1 h5
  obtain ⟨F, hF⟩ : ∃ F, progE p = F := ⟨_, rfl⟩
  obtain ⟨M, hM⟩ : ∃ M, sameM p q how = M := ⟨_, rfl⟩
  rw [hM]
  by_cases hF0 : F = 0
  · subst hF0
    obtain ⟨G, hG⟩ : ∃ F, progE q = F := ⟨_, rfl⟩
    by_cases hG0 : G = 0
    · subst hG0
      have hk0 := Lib.hid k0
      have hk1 := Lib.hid k1
      have hk5 := Lib.hid k5
      have hpf := benchFacts hF
      have hqf := benchFacts hG
      clear k0 k1 k5
      have hE' := Lib.hid hE
      have hF' := Lib.hid hF
      have hG' := Lib.hid hG
      have hM' := Lib.hid hM
      have hpf' := Lib.hid hpf
      have hqf' := Lib.hid hqf
      clear hqf hpf hM hG hF hE
      go_enter Try.func45, Try.ntmps45
      go_upto_region 2 with (go_at_call 51; ((with_reducible refine (pf_mounted _ p _ (hp0.out.below (alc3 _ _ _ _)) 0 hF'.out).mono ?_); rintro e w' ⟨vb, rfl, hb, -, hok⟩; obtain ⟨b, rfl, -, hbench⟩ := hok rfl; have hB1 := Lib.hid hbench; clear hok hbench))
      obtain ⟨hst, hqx⟩ := SameSt.start p q (a := #[v0, v1, .int .i64 p.start, .int .i64 p.throw, .int .i64 p.adv, v5]) (b := #[u0, u1, .int .i64 q.start, .int .i64 q.throw, .int .i64 q.adv, u5]) 0 (.int .i64 0) 0 hb
      obtain ⟨hbw, hbx, hBC⟩ := SameSt.start0 hb
      have hqx1 := (Below.heap_alloc w' (.cells #[.int .i64 0] 27) _ (Array.getElem?_eq_some_iff.1 hqx).1).trans hqx
      have h01 := alc1 w' (.cells #[.int .i64 0] 27)
      have hz1 : (w'.alloc (.cells #[.int .i64 0] 27)).heap.size = w'.heap.size + 1 := by simp
      clear hqx hb
      generalize w'.alloc (.cells #[.int .i64 0] 27) = W1 at hst hqx1 h01 hz1 ⊢
      obtain ⟨C, hC⟩ : ∃ C, w'.heap.size = C := ⟨_, rfl⟩
      rw [hC] at hst h01 hz1 hBC ⊢
      obtain ⟨B, hBd⟩ : ∃ B, w.heap.size + 1 + 1 = B := ⟨_, rfl⟩
      rw [hBd] at hst hbx hBC ⊢
      have y0 := cell0 hst.err
      obtain ⟨q0, q1, q2, q3, q4, q5⟩ := prog_cells hqx1
      have hst' := Lib.hid hst
      clear hst
      have hBd' := Lib.hid hBd
      have hqx1' := Lib.hid hqx1
      have hbw' := Lib.hid hbw
      have hbx' := Lib.hid hbx
      have hBC' := Lib.hid hBC
      have h01' := Lib.hid h01
      have hz1' := Lib.hid hz1
      have hC' := Lib.hid hC
      clear hC hz1 h01 hBC hbx hbw hqx1 hBd
      go_upto_region 5 with (go_at_call 51; ((with_reducible refine (pf_mounted2 _ _ _ q _ (hk0.out.below hst'.out.below) (hk1.out.below hst'.out.below) (hk5.out.below hst'.out.below) hG'.out).mono ?_); rintro e w2 ⟨b2, vl, rfl, hb, hb2, hcs, hrow⟩; have hst2 := hst'.out.next hb; have h02 := h01'.out.trans (hb.mono (by have := hz1'.out; omega)); have hst2' := Lib.hid hst2; have z0 := cell0 hst2.err; have zf := frozen0 hst2.err 0; have hcs' := Lib.hid hcs; have hrow' := Lib.hid hrow; have hb2' := Lib.hid hb2; have h02' := Lib.hid h02; clear hcs hrow hb2 h02 hb hst2 y0 q0 q1 q2 q3 q4 q5))
      have hCb2 : C < b2 := by have := hb2'.out; have := hz1'.out; omega
      obtain ⟨g, hCg, hg2, hkeep⟩ := two_bench (u0 := u0) (u1 := u1) (u5 := u5) (vl := vl) (q := q) hC'.out (hk0.out.below hbw'.out) (hk1.out.below hbw'.out) (hk5.out.below hbw'.out) hCb2 hcs'.out (own_base hrow'.out (by have := hz1'.out; omega))
      have hb2l := (Array.getElem?_eq_some_iff.1 hcs'.out).1
      have ht3 := Bth.put (w' := w') (w2 := w2) (b2 := b2) (g := g) (C := C) (W := w2) ⟨h02'.out, Nat.le_refl _, rfl, rfl⟩ hCb2 hCg (.int .i64 0)
      have hst3 := hst2'.out.put 0
      generalize w2.setCell ⟨C, 0, none⟩ (.int .i64 0) = W3 at ht3 hst3 ⊢
      clear hst2' z0 zf hcs' hrow' h02' hb2' hst' hqx1' h01' hz1'
      have hht' := Lib.hid ht3
      obtain ⟨x0, x1, x2, x3⟩ := move_cells hst3.box
      have y0 := cell0 hst3.err
      have f0 := frozen0 hst3.box 0
      have f1 := frozen0 hst3.box 1
      have f2 := frozen0 hst3.box 2
      have f3 := frozen0 hst3.box 3
      have g0 := frozen0 hst3.err 0
      have n1 : ¬ B = C := by have := hst3.lc; omega
      have n2 : ¬ C = B := fun e => n1 e.symm
      have hst' := Lib.hid hst3
      have hkeep' := Lib.hid hkeep
      clear hst3 ht3 hkeep
      by_cases hh : 3 < how
      · have hEE : E = 2 := by rw [← hE'.out]; unfold sameE; rw [if_neg (by simp [hF'.out]), if_neg (by simp [hG'.out]), if_pos hh]
        subst hEE
        have hsm : M = zeroMv := by rw [← hM'.out]; unfold sameM; rw [hE'.out, if_neg (by decide)]
        subst hsm
        have hh2 : (3 : Int) < (how : Int) := by omega
        go_wp2
        obtain ⟨W9, hW9, ⟨r0, r1, r2, r3⟩, hb9⟩ := same_fin hst'.out.box hst'.out.below hst'.out.lb (.int .i64 0) (.int .i64 0) (.bool false) (.bool false)
        try rw [hW9]
        exact bodyPost_ret (v := .tuple #[.agg #[.int .i64 0, .int .i64 0, .bool false, .bool false], .int .i64 2]) (by simp [results, Try.results45, go_sem, r0, r1, r2, r3]) rfl ⟨rfl, hb9⟩
      · have hh2 : (how : Int) ≤ 3 := by omega
        go_upto_region 10 with (fail)
        have hst4 := hst'.out.next (alc1 W3 (.cells #[.int .i64 0, .int .i64 0, .bool false, .bool false] 68))
        have ht4 := hht'.out.next hC'.out hb2l hg2 (alc1 W3 (.cells #[.int .i64 0, .int .i64 0, .bool false, .bool false] 68))
        have hX4 := alc_at W3 (.cells #[.int .i64 0, .int .i64 0, .bool false, .bool false] 68)
        obtain ⟨X, hX⟩ : ∃ X, W3.heap.size = X := ⟨_, rfl⟩
        have hX2 : w2.heap.size ≤ X := by rw [← hX]; exact hht'.out.size
        rw [hX] at hX4 ⊢
        clear hst' hht' x0 x1 x2 x3 y0 f0 f1 f2 f3 g0
        generalize W3.alloc (.cells #[.int .i64 0, .int .i64 0, .bool false, .bool false] 68) = W4 at hst4 ht4 hX4 ⊢
        clear hX
        have y0 := cell0 hst4.err
        have g0 := frozen0 hst4.err 0
        have hst4' := Lib.hid hst4
        have ht4' := Lib.hid ht4
        have hX4' := Lib.hid hX4
        clear hst4 ht4 hX4
        go_upto_region 11 with (fail)
        have ht5 := ht4'.out.put hCb2 hCg (.int .i64 6)
        have hst5 := hst4'.out.put 6
        have hX5 := (Below.heap_setCell W4 ⟨C, 0, none⟩ (.int .i64 6) X (by show X ≠ C; omega)).trans hX4'.out
        clear hst4' ht4' hX4' y0 g0
        generalize W4.setCell ⟨C, 0, none⟩ (.int .i64 6) = W5 at ht5 hst5 hX5 ⊢
        obtain ⟨hsm, hse⟩ := sameM_eq hF'.out hG'.out (Nat.le_of_not_lt hh)
        rw [hM'.out] at hsm
        rw [hE'.out] at hse
        have hsc : Calls Try.prog 78 #[.pointer (some ⟨b, 0, none⟩), .pointer (some ⟨b2, 0, none⟩), .int .u8 how, .func (.func 81) #[] #[.pointer (some ⟨X, 0, none⟩), .pointer (some ⟨C, 0, none⟩)]] W5 fun e w9 => e = .returned (.tuple #[]) ∧ Below C w' w9 ∧ SameInv X C (gotMv false (allMv p q how)) w9 :=
          pf_searchB p q b b2 how 81 #[.pointer (some ⟨X, 0, none⟩), .pointer (some ⟨C, 0, none⟩)] false (SameOwn X C) (SameInv X C) C (Bth w' w2 C b2 g) w' W5
            ⟨fun W h => hB1.out.below (by rw [hC'.out]; exact h.below), fun W h => hkeep'.out W h, fun W W' h hb => h.next hC'.out hb2l hg2 hb, fun W W' h hb hs => h.save hCb2 hCg hb2l hg2 hX2 hb hs⟩
            ht5 hpf'.out hqf'.out (Nat.le_of_not_lt hh) (same_recv C X C (by omega) (Nat.le_refl _) (by omega)) ht5.below (by have := ht5.below.size; have := hC'.out; omega) ⟨hX5, hst5.err⟩
        clear ht5 hst5 hX5
        have hsc' := Lib.hid hsc
        have hsm' := Lib.hid hsm
        have hse' := Lib.hid hse
        clear hse hsm hsc
        go_upto_region 12 with (go_at_call 78; ((with_reducible refine hsc'.out.mono ?_); rintro e w9 ⟨rfl, hb9, hi9⟩; unfold SameInv at hi9; rw [← hsm'.out, ← hse'.out] at hi9; have hb9' := Lib.hid hb9; have hi9' := Lib.hid hi9; clear hb9 hi9))
        obtain ⟨hx9, he9⟩ := hi9'.out
        have hbx9 := (hb9'.out.block B hBC'.out).trans hbx'.out
        have hwC : w.heap.size ≤ C := by have := hbw'.out.size; have := hC'.out; omega
        have hbb := hbw'.out.trans (hb9'.out.mono hwC)
        have hBl : w.heap.size ≤ B := by have := hBd'.out; omega
        clear hsc' hsm' hse' hb9' hi9' hbw' hbx' hM' hE' hkeep'
        obtain ⟨mc, mt, mm, mb⟩ := M
        obtain ⟨x0, x1, x2, x3⟩ := move_cells hbx9
        obtain ⟨m0, m1, m2, m3⟩ := move_cells hx9
        have y0 := cell0 he9
        have f0 := frozen0 hbx9 0
        have f1 := frozen0 hbx9 1
        have f2 := frozen0 hbx9 2
        have f3 := frozen0 hbx9 3
        have n3 : ¬ B = X := by have := hBC'.out; omega
        have n4 : ¬ X = B := fun e => n3 e.symm
        have hx9' := Lib.hid hx9
        have he9' := Lib.hid he9
        have hbx9' := Lib.hid hbx9
        have hbb' := Lib.hid hbb
        clear hbb hbx9 he9 hx9
        go_wp2
        go_region
        all_goals
          go_wp2
          obtain ⟨W9, hW9, ⟨r0, r1, r2, r3⟩, hb9⟩ := same_fin hbx9'.out hbb'.out hBl (.int .i64 mc) (.int .i64 mt) (.bool mm) (.bool mb)
          rw [hW9]
          exact bodyPost_ret (v := .tuple #[.agg #[.int .i64 mc, .int .i64 mt, .bool mm, .bool mb], .int .i64 E]) (by simp [results, Try.results45, go_sem, r0, r1, r2, r3]) rfl ⟨rfl, hb9.drew⟩
    · have hEE : E = G := by rw [← hE]; unfold sameE; rw [if_neg (by simpa using hF), if_pos (by rw [hG]; exact hG0), hG]
      subst hEE
      have hsm : M = zeroMv := by rw [← hM]; unfold sameM; rw [hE, if_neg hG0]
      subst hsm
      have hGz : (E != 0) = true := by simpa using hG0
      clear k0 k1 k5
      have hE' := Lib.hid hE
      have hF' := Lib.hid hF
      have hG' := Lib.hid hG
      have hM' := Lib.hid hM
      have hG0' := Lib.hid hG0
      clear hG0 hM hG hF hE
      go_enter Try.func45, Try.ntmps45
      go_upto_region 2 with (go_at_call 51; ((with_reducible refine (pf_mounted _ p _ (hp0.out.below (alc3 _ _ _ _)) 0 hF'.out).mono ?_); rintro e w' ⟨vb, rfl, hb, -, hok⟩; obtain ⟨b, rfl, -, -⟩ := hok rfl; clear hok))
      obtain ⟨hst, hqx⟩ := SameSt.start p q (a := #[v0, v1, .int .i64 p.start, .int .i64 p.throw, .int .i64 p.adv, v5]) (b := #[u0, u1, .int .i64 q.start, .int .i64 q.throw, .int .i64 q.adv, u5]) 0 (.int .i64 0) 0 hb
      have hqx1 := (Below.heap_alloc w' (.cells #[.int .i64 0] 27) _ (Array.getElem?_eq_some_iff.1 hqx).1).trans hqx
      clear hqx hb
      generalize w'.alloc (.cells #[.int .i64 0] 27) = W1 at hst hqx1 ⊢
      generalize w'.heap.size = C at hst ⊢
      clear w'
      obtain ⟨B, hBd⟩ : ∃ B, w.heap.size + 1 + 1 = B := ⟨_, rfl⟩
      rw [hBd] at hst ⊢
      have y0 := cell0 hst.err
      obtain ⟨q0, q1, q2, q3, q4, q5⟩ := prog_cells hqx1
      have hst' := Lib.hid hst
      clear hst
      have hBd' := Lib.hid hBd
      have hqx1' := Lib.hid hqx1
      clear hqx1 hBd
      go_upto_region 5 with (go_at_call 51; ((with_reducible refine (pf_mounted _ q _ (hq0.out.below hst'.out.below) E hG'.out).mono ?_); rintro e w2 ⟨vb, rfl, hb, hn, -⟩; obtain rfl := hn hG0'.out; have hst2 := hst'.out.next hb; have hst2' := Lib.hid hst2; have z0 := cell0 hst2.err; have zf := frozen0 hst2.err 0; clear hb hn hst2 y0 q0 q1 q2 q3 q4 q5))
      have hst3 := hst2'.out.put E
      generalize w2.setCell ⟨C, 0, none⟩ (.int .i64 E) = W3 at hst3 ⊢
      clear hst2' z0 zf hst' hqx1'
      obtain ⟨x0, x1, x2, x3⟩ := move_cells hst3.box
      have y0 := cell0 hst3.err
      have f0 := frozen0 hst3.box 0
      have f1 := frozen0 hst3.box 1
      have f2 := frozen0 hst3.box 2
      have f3 := frozen0 hst3.box 3
      have n1 : ¬ B = C := by have := hst3.lc; omega
      have n2 : ¬ C = B := fun e => n1 e.symm
      have hst' := Lib.hid hst3
      clear hst3
      go_wp2
      go_region
      all_goals
        go_wp2
        obtain ⟨W9, hW9, ⟨r0, r1, r2, r3⟩, hb9⟩ := same_fin hst'.out.box hst'.out.below hst'.out.lb (.int .i64 0) (.int .i64 0) (.bool false) (.bool false)
        rw [hW9]
        exact bodyPost_ret (v := .tuple #[.agg #[.int .i64 0, .int .i64 0, .bool false, .bool false], .int .i64 E]) (by simp [results, Try.results45, go_sem, r0, r1, r2, r3]) rfl ⟨rfl, hb9.drew⟩
  · have hEE : E = F := by rw [← hE]; unfold sameE; rw [hF, if_pos hF0]
    subst hEE
    have hsm : M = zeroMv := by rw [← hM]; unfold sameM; rw [hE, if_neg hF0]
    subst hsm
    have hFz : (E != 0) = true := by simpa using hF0
    have hE' := Lib.hid hE
    have hF0' := Lib.hid hF0
    have hM' := Lib.hid hM
    have hF' := Lib.hid hF
    clear hF hM hF0 hE
    go_enter Try.func45, Try.ntmps45
    go_upto_region 2 with (go_at_call 51; ((with_reducible refine (pf_mounted _ p _ (hp0.out.below (alc3 _ _ _ _)) E hF'.out).mono ?_); rintro e w' ⟨vb, rfl, hb, hn, -⟩; obtain rfl := hn hF0'.out; clear hn))
    obtain ⟨hst, -⟩ := SameSt.start p q (a := #[v0, v1, .int .i64 p.start, .int .i64 p.throw, .int .i64 p.adv, v5]) (b := #[u0, u1, .int .i64 q.start, .int .i64 q.throw, .int .i64 q.adv, u5]) E (.int .i64 0) 0 hb
    clear hb
    generalize w'.alloc (.cells #[.int .i64 E] 27) = W1 at hst ⊢
    generalize w'.heap.size = C at hst ⊢
    clear w'
    obtain ⟨B, hBd⟩ : ∃ B, w.heap.size + 1 + 1 = B := ⟨_, rfl⟩
    rw [hBd] at hst ⊢
    obtain ⟨x0, x1, x2, x3⟩ := move_cells hst.box
    have y0 := cell0 hst.err
    have f0 := frozen0 hst.box 0
    have f1 := frozen0 hst.box 1
    have f2 := frozen0 hst.box 2
    have f3 := frozen0 hst.box 3
    have n1 : ¬ B = C := by have := hst.lc; omega
    have n2 : ¬ C = B := fun e => n1 e.symm
    have hst' := Lib.hid hst
    clear hst
    have hBd' := Lib.hid hBd
    clear hBd
    go_wp2
    go_region
    all_goals
      go_wp2
      obtain ⟨W9, hW9, ⟨r0, r1, r2, r3⟩, hb9⟩ := same_fin hst'.out.box hst'.out.below hst'.out.lb (.int .i64 0) (.int .i64 0) (.bool false) (.bool false)
      rw [hW9]
      exact bodyPost_ret (v := .tuple #[.agg #[.int .i64 0, .int .i64 0, .bool false, .bool false], .int .i64 E]) (by simp [results, Try.results45, go_sem, r0, r1, r2, r3]) rfl ⟨rfl, hb9.drew⟩
end Go.Proofs.Ytnboppombhibbaa
