/- Spots that are traced to points: quarters, spots that lie far, and a way that is tried. -/
import Derived.Test.YtabfaobakmjiaaaGreatPk47
namespace Go.Proofs.YtabfaobakmjiaaaGreat
set_option maxRecDepth 100000
set_option maxHeartbeats 1000000
open Go.RowKit
set_option linter.unusedVariables false
set_option linter.unusedSimpArgs false
structure QuI (x : Sp) (w : World) (Z k : Nat) (W : World) : Prop where
 bw : Below w.heap.size w W
 k0 : W.heap[w.heap.size]? = some (.cells #[.int .i64 (rotP x k).1, .int .i64 (rotP x k).2] 41)
 k1 : W.heap[Z]? = some (.cells #[.int .i64 0, .int .i64 0] 41)
theorem qHP (x : Sp) (n : Nat) (w : World) (hx : (-10000 ≤ x.1 ∧ x.1 ≤ 10000) ∧ (-10000 ≤ x.2 ∧ x.2 ≤ 10000)) (hn : n ≤ 4) :
  Calls Tryz.prog 61 #[.agg #[.int .i64 x.1, .int .i64 x.2], .int .i64 (n : Int)] w fun e w' => e = .returned (.agg #[.int .i64 (rotP x n).1, .int .i64 (rotP x n).2]) ∧ Below w.heap.size w w' := by
 obtain ⟨W1, hW1, hb1, k1⟩ := newb w (.cells #[.int .i64 x.1, .int .i64 x.2] 41);obtain ⟨W2, hW2, hb2, k2⟩ := newb W1 (.cells #[.int .i64 0, .int .i64 0] 41);have z1 : w.heap.size < W1.heap.size := gsl k1;have hI0 : QuI x w W1.heap.size 0 W2 := ⟨belT hb1 hb2, blk hb2 k1, k2⟩;have hle := fun k => qFV hx k;have ⟨hx', hb1', k1', hb2', k2', hI0', hle'⟩ := hyd7 hx hb1 k1 hb2 k2 hI0 hle;clear hle hI0 k2 hb2 k1 hb1 hx;go_enter Tryz.func61, Tryz.ntmps61;go_wp2_with (fail);clear hW1 hW2;obtain ⟨Z, hZ⟩ : ∃ Z, W1.heap.size = Z := ⟨_, rfl⟩;rw [hZ] at z1 hI0' ⊢;clear hb2' k2' hZ;go_loopw [6] (fun ix wr => ∃ k : Nat, k ≤ n ∧ ix = .int .i64 (k : Int) ∧ Hid (QuI x w Z k wr)) (fun ix _ => n - (intOf ix).toNat)
 case atStart => exact ⟨0, Nat.zero_le _, rfl, hI0'⟩
 case round =>
  obtain ⟨k, hk, rfl, hI⟩ := hrel;obtain ⟨hbw, k0, k1⟩ := hI.out
  by_cases hlt : k < n
  ·obtain ⟨c0, c1⟩ := pc2 k0;have f0 := pfrz k0 0;have f1 := pfrz k0 1;have hl := hle'.out k
   have hN : QuI x w Z (k + 1) ((wr.setCell ⟨w.heap.size, 0, none⟩ (.int .i64 (-(rotP x k).2))).setCell ⟨w.heap.size, 1, none⟩ (.int .i64 (rotP x k).1)) :=
    ⟨Below.setCell (Below.setCell hbw (p := ⟨w.heap.size, 0, none⟩) (Nat.le_refl _) _) (p := ⟨w.heap.size, 1, none⟩) (Nat.le_refl _) _, qAp k0,
     (Below.heap_setCell _ ⟨w.heap.size, 1, none⟩ _ Z (Nat.ne_of_gt z1)).trans ((Below.heap_setCell _ ⟨w.heap.size, 0, none⟩ _ Z (Nat.ne_of_gt z1)).trans k1)⟩
   obtain ⟨a, ha⟩ : ∃ a, (rotP x k).1 = a := ⟨_, rfl⟩;obtain ⟨b, hb⟩ : ∃ b, (rotP x k).2 = b := ⟨_, rfl⟩;rw [ha, hb] at hN hl;rw [ha] at c0;rw [hb] at c1;obtain ⟨⟨l1, l2⟩, l3, l4⟩ := hl;have s1 : IntKind.i64.wrap (-b) = -b := IntWalk.i64_in _ (by omega);have j1 : (k : Int) < (n : Int) := by omega
   have ⟨hI', hbw', k0', k1', hN', ha', hb'⟩ := hyd7 hI hbw k0 k1 hN ha hb;clear hb ha hN k1 k0 hbw hI;go_wp2;go_roundw
   case rel => exact ⟨k + 1, by omega, by go_num, hN'⟩
   case measure => simp [intOf]; omega
  ·obtain rfl : n = k := by omega
   obtain ⟨c0, c1⟩ := pc2 k0;obtain ⟨d0, d1⟩ := pc2 k1;have f0 := pfrz k1 0;have f1 := pfrz k1 1
   obtain ⟨W9, hW9, hb9, k9⟩ : ∃ V, (wr.setCell ⟨Z, 0, none⟩ (.int .i64 (rotP x n).1)).setCell ⟨Z, 1, none⟩ (.int .i64 (rotP x n).2) = V ∧ Below w.heap.size w V ∧ V.heap[Z]? = some (.cells #[.int .i64 (rotP x n).1, .int .i64 (rotP x n).2] 41) :=
    ⟨_, rfl, Below.setCell (Below.setCell hbw (p := ⟨Z, 0, none⟩) (Nat.le_of_lt z1) _) (p := ⟨Z, 1, none⟩) (Nat.le_of_lt z1) _, qAp k1⟩
   obtain ⟨e0, e1⟩ := pc2 k9;have ⟨hI', hbw', k0', k1', hb9', k9'⟩ := hyd6 hI hbw k0 k1 hb9 k9;clear k9 hb9 k1 k0 hbw hI;go_wp2;exact bodyPost_ret (v := .agg #[.int .i64 (rotP x n).1, .int .i64 (rotP x n).2]) (by simp [results, Tryz.results61, go_sem, e0, e1]) rfl ⟨rfl, hb9'.out⟩
theorem qIx {P : Program} (w : World) (ts : Array TypeId) (t : TypeId) (x1 x2 x3 x4 : Int) :
  (Builtin.max_ ts t #[.int .i64 x1, .int .i64 x2, .int .i64 x3, .int .i64 x4]).run P w = .ok (.int .i64 (max x1 (max x2 (max x3 x4)))) w := by
 have e : ∀ x y : Int, (if y > x then y else x) = max x y := fun x y => by
  rw [Int.max_def]
  split <;> split <;> omega
 have h9 : max (max (max x1 x2) x3) x4 = max x1 (max x2 (max x3 x4)) := by omega
 rw [← h9];simp only [Builtin.max_, Builtin.max2, List.foldlM, e];simp [Builtin.max2, e]
attribute [local go_sem high] qIx
theorem qKz (x : Sp) (w : World) (h1 : fit64 x.1) (h2 : fit64 x.2) :
  Calls Tryz.prog 27 #[.agg #[.int .i64 x.1, .int .i64 x.2]] w fun e w' => e = .returned (.bool (farB x)) ∧ Below w.heap.size w w' := by
 obtain ⟨a, b⟩ := x;unfold fit64 at h1 h2;dsimp only at h1 h2 ⊢;obtain ⟨W1, hW1, hb1, k1⟩ := newb w (.cells #[.int .i64 a, .int .i64 b] 41);obtain ⟨c0, c1⟩ := pc2 k1;obtain ⟨a', ha'⟩ : ∃ z, IntKind.i64.wrap (-a) = z := ⟨_, rfl⟩;obtain ⟨b', hb'⟩ : ∃ z, IntKind.i64.wrap (-b) = z := ⟨_, rfl⟩
 have ea : a' = -a ∨ (a = -9223372036854775808 ∧ a' = -9223372036854775808) := by
  by_cases h : a = -9223372036854775808
  ·right; refine ⟨h, ?_⟩; rw [← ha', h]; decide
  ·left; rw [← ha']; exact IntWalk.i64_in _ (by omega)
 have eb : b' = -b ∨ (b = -9223372036854775808 ∧ b' = -9223372036854775808) := by
  by_cases h : b = -9223372036854775808
  ·right; refine ⟨h, ?_⟩; rw [← hb', h]; decide
  ·left; rw [← hb']; exact IntWalk.i64_in _ (by omega)
 obtain ⟨M, hM⟩ : ∃ M, max a (max a' (max b b')) = M := ⟨_, rfl⟩;obtain ⟨m, hm⟩ : ∃ m, min a b = m := ⟨_, rfl⟩
 have hfar : farB (a, b) = (decide (10000 < M) || decide (m < -10000)) := by
  unfold farB qAJ;rw [Bool.eq_iff_iff];simp only [Bool.not_eq_true', Bool.and_eq_false_iff, decide_eq_false_iff_not, Bool.or_eq_true, decide_eq_true_eq, Bool.and_eq_false_imp];omega
 by_cases hbig : 10000 < M
 ·have g1 : farB (a, b) = true := by rw [hfar, decide_eq_true hbig]; rfl
  have ⟨hb1', k1', hfar', ea', eb', g1'⟩ := hyd6 hb1 k1 hfar ea eb g1;clear g1 eb ea hfar k1 hb1;go_enter Tryz.func27, Tryz.ntmps27;go_wp2;go_ret;exact ⟨by rw [g1'.out]; rfl, hb1'.out⟩
 ·by_cases hlow : m < -10000
  ·have g1 : farB (a, b) = true := by rw [hfar, decide_eq_true hlow, Bool.or_true]
   have ⟨hb1', k1', hfar', ea', eb', g1'⟩ := hyd6 hb1 k1 hfar ea eb g1;clear g1 eb ea hfar k1 hb1;go_enter Tryz.func27, Tryz.ntmps27;go_wp2;go_ret;exact ⟨by rw [g1'.out]; rfl, hb1'.out⟩
  ·have g1 : farB (a, b) = false := by rw [hfar, decide_eq_false hbig, decide_eq_false hlow]; rfl
   have ⟨hb1', k1', hfar', ea', eb', g1'⟩ := hyd6 hb1 k1 hfar ea eb g1;clear g1 eb ea hfar k1 hb1;go_enter Tryz.func27, Tryz.ntmps27;go_wp2;go_ret;exact ⟨by rw [g1'.out]; rfl, hb1'.out⟩
theorem qL5 (v : Value) (L : List Sp) (w : World) (hv : SpotsV w v L) (hf : ∀ s ∈ L, fit64 s.1 ∧ fit64 s.2) :
  Calls Tryz.prog 59 #[v, .func (.func 27) #[] #[]] w fun e w' => ∃ r : Int, e = .returned (.int .i64 r) ∧ Below w.heap.size w w' ∧ ((r = -1 ∧ ∀ s ∈ L, farB s = false) ∨ (0 ≤ r ∧ ∃ s ∈ L, farB s = true)) := by
 obtain ⟨A1, c1, rfl, zL⟩ := hv.form;have hI0 : Below w.heap.size w w ∧ ∀ s ∈ L.take 0, farB s = false := ⟨Below.refl _ _, by simp⟩;have ⟨hv', hI0', hf'⟩ := hyd3 hv hI0 hf;clear hf hI0 hv;go_enter Tryz.func59, Tryz.ntmps59;go_wp2;go_loopw [8] (fun kx wr => ∃ k : Nat, k ≤ L.length ∧ kx = .int .i64 (k : Int) ∧ Hid (Below w.heap.size w wr ∧ ∀ s ∈ L.take k, farB s = false)) (fun kx _ => L.length - (intOf kx).toNat)
 case atStart => exact ⟨0, Nat.zero_le _, rfl, hI0'⟩
 case round =>
  obtain ⟨k, hk, rfl, hI⟩ := hrel;obtain ⟨hbw, hall⟩ := hI.out
  by_cases hlt : k < L.length
  ·obtain ⟨b1, o1, x1, heq, hbl1, g0, g1⟩ := SpotsV.at (hv'.out.le hbw) hlt;injection heq with e1 e2 e3;subst e1 e3;clear e2;have j1 : (k : Int) < (L.length : Int) := by omega
   have j2 : (0 : Int) ≤ (k : Int) := by omega
   have htk : L.take (k + 1) = L.take k ++ [L[k]] := List.take_succ_eq_append_getElem hlt;have hfs := hf'.out _ (List.getElem_mem hlt);have hmem := List.getElem_mem hlt;obtain ⟨s, hs⟩ : ∃ s, L[k] = s := ⟨_, rfl⟩;rw [hs] at g0 g1 htk hfs hmem;have ku := qKz s wr hfs.1 hfs.2;obtain ⟨B, hB⟩ : ∃ B, farB s = B := ⟨_, rfl⟩;rw [hB] at ku;have ⟨hI', hbw', hall', htk', ku', hs', hB', hfs'⟩ := hyd8 hI hbw hall htk ku hs hB hfs;have hmem' := hyd1 hmem;clear hmem hfs hB hs ku htk hall hbw hI;go_wp2_with (fail);go_at_call 27;refine ku'.out.mono ?_;rintro e W2 ⟨rfl, hb2⟩;have hbw2 := belT hbw'.out hb2
   cases B with
   | true =>
    have hfin : ∃ s ∈ L, farB s = true := ⟨s, hmem'.out, hB'.out⟩;have ⟨hb2', hbw2', hfin'⟩ := hyd3 hb2 hbw2 hfin;clear hfin hbw2 hb2;go_wp2;go_ret;exact ⟨_, rfl, hbw2'.out, .inr ⟨by omega, hfin'.out⟩⟩
   | false =>
    have hN : Below w.heap.size w W2 ∧ ∀ s ∈ L.take (k + 1), farB s = false := ⟨hbw2, fun x hx => by
     rw [htk'.out] at hx
     rcases List.mem_append.1 hx with h | h
     ·exact hall'.out x h
     ·rw [List.mem_singleton.1 h]; exact hB'.out⟩
    have ⟨hb2', hbw2', hN'⟩ := hyd3 hb2 hbw2 hN;clear hN hbw2 hb2;go_wp2;go_roundw
    case rel => exact ⟨k + 1, by omega, by go_num, hN'⟩
    case measure => simp [intOf]; omega
  ·obtain rfl : L.length = k := by omega
   have hfin : ∀ s ∈ L, farB s = false := fun s hs => hall s (by rw [List.take_length]; exact hs);have ⟨hI', hbw', hall', hfin'⟩ := hyd4 hI hbw hall hfin;clear hfin hall hbw hI;go_wp2;go_ret;exact ⟨-1, rfl, hbw'.out, .inl ⟨rfl, hfin'.out⟩⟩
theorem qL6 (v : Value) (L : List Sp) (w : World) (hv : SpotsV w v L) (hf : ∀ s ∈ L, fit64 s.1 ∧ fit64 s.2) :
  Calls Tryz.prog 29 #[v, .func (.func 27) #[] #[]] w fun e w' => e = .returned (.bool (!(L.all fun x => !farB x))) ∧ Below w.heap.size w w' := by
 have kx := qL5 v L w hv hf;obtain ⟨A1, c1, rfl, zL⟩ := hv.form;have ⟨hv', hf', kx'⟩ := hyd3 hv hf kx;clear kx hf hv;go_enter Tryz.func29, Tryz.ntmps29;go_wp2_with (fail);go_at_call 59;refine kx'.out.mono ?_;rintro e W1 ⟨r, rfl, hb1, (⟨rfl, hall⟩ | ⟨h0, s, hs, hfs⟩)⟩
 ·have hres : (!(L.all fun x => !farB x)) = false := by
   have : (L.all fun x => !farB x) = true := List.all_eq_true.2 fun x hx => by rw [hall x hx]; rfl
   rw [this]; rfl
  have ⟨hb1', hall', hres'⟩ := hyd3 hb1 hall hres;clear hres hall hb1;go_wp2;go_ret;exact ⟨by rw [hres'.out]; rfl, hb1'.out⟩
 ·have hres : (!(L.all fun x => !farB x)) = true := by
   have : (L.all fun x => !farB x) = false := by
    rw [Bool.eq_false_iff];intro h9;have := List.all_eq_true.1 h9 s hs;rw [hfs] at this
    cases this
   rw [this]; rfl
  have ⟨hb1', hs', hfs', hres'⟩ := hyd4 hb1 hs hfs hres;clear hres hfs hs hb1;go_wp2;go_ret;exact ⟨by rw [hres'.out]; rfl, hb1'.out⟩
end Go.Proofs.YtabfaobakmjiaaaGreat
