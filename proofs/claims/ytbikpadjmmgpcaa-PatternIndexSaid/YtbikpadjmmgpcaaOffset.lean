/- Plain laws of two programs together: the beat, as a list of differences without repeats. Layer 4: erase, same, Twin, SameProgram. The reference of layer 4: Twin. The reference's Moire. The gap: slices.Min, the reference's Gap. The reference's Gap. pattern.Gap. pattern: bench.offset. -/
import Derived.Test.YtbikpadjmmgpcaaP4Tells
import Derived.Test.YtbikpadjmmgpcaaP4Lift
import Derived.Test.YtbikpadjmmgpcaaBoxKit
import Derived.Test.YtbikpadjmmgpcaaPatCheck
import Derived.Maps.OwnSet
import Derived.Maps.OwnIn
namespace Go.Proofs.Ytbikpadjmmgpcaa
open Go.RowKit
set_option linter.unusedVariables false
set_option linter.unusedSimpArgs false
def addI (acc : List Int) (x : Int) : List Int := if acc.any (fun y => y == x) then acc else acc ++ [x]
def commonG (p q : Prog) : Nat := Nat.gcd (per p) (per q)
def diffI (p q : Prog) (j : Nat) : Int := (phaseI p j - phaseI q j) % (commonG p q : Int)
def seenL (p q : Prog) (k : Nat) : List Int := ((List.range k).map (diffI p q)).foldl addI []
def lookN (p q : Prog) : Nat := p.shifts.length * q.shifts.length * commonG p q
def beatN (p q : Prog) : Nat := (seenL p q (lookN p q)).length
def togetherN (p q : Prog) : Nat := closeN p / Nat.gcd (closeN p) (closeN q) * closeN q
def moireE (p q : Prog) : Int := if progE p ≠ 0 then progE p else if progE q ≠ 0 then progE q else if p.ros.length ≠ q.ros.length then 2 else 0
theorem seenL_succ (p q : Prog) (k : Nat) : seenL p q (k + 1) = addI (seenL p q k) (diffI p q k) := by unfold seenL; rw [List.range_succ]; simp
theorem seenL_le (p q : Prog) (k : Nat) : (seenL p q k).length ≤ k := by
  induction k with
  | zero => simp [seenL]
  | succ k ih =>
    rw [seenL_succ]
    unfold addI
    split
    · omega
    · simp; omega
theorem common_bound {p q : Prog} (hp : BenchFacts p) (hq : BenchFacts q) : 1 ≤ commonG p q ∧ commonG p q ≤ 96 := by
  have h1 := per_pos hp
  have h2 := hp.ros1
  have := Nat.gcd_le_left (per q) h1.1
  exact ⟨Nat.gcd_pos_of_pos_left _ h1.1, by unfold commonG; omega⟩
theorem look_bound {p q : Prog} (hp : BenchFacts p) (hq : BenchFacts q) : lookN p q ≤ 13824 ∧ p.shifts.length * q.shifts.length ≤ 144 := by
  have h := common_bound hp hq
  have h1 : p.shifts.length * q.shifts.length ≤ 12 * 12 := Nat.mul_le_mul hp.sh1 hq.sh1
  have h2 : lookN p q ≤ 144 * 96 := Nat.mul_le_mul h1 h.2
  omega
theorem diff_bound {p q : Prog} (hp : BenchFacts p) (hq : BenchFacts q) (j : Nat) : 0 ≤ diffI p q j ∧ diffI p q j < commonG p q := by
  have h := common_bound hp hq
  exact ⟨Int.emod_nonneg _ (by omega), Int.emod_lt_of_pos _ (by omega)⟩
theorem together_bound {p q : Prog} (hp : BenchFacts p) (hq : BenchFacts q) : closeN p / Nat.gcd (closeN p) (closeN q) ≤ 1152 ∧ togetherN p q ≤ 2000000 ∧ 1 ≤ Nat.gcd (closeN p) (closeN q) ∧ Nat.gcd (closeN p) (closeN q) ≤ 1152 := by
  have h1 := (close_le hp).2.2
  have h2 := (close_le hq).2.2
  have h3 : closeN p / Nat.gcd (closeN p) (closeN q) ≤ 1152 := Nat.le_trans (Nat.div_le_self _ _) h1.2
  have h4 : togetherN p q ≤ 1152 * 1152 := Nat.mul_le_mul h3 h2.2
  exact ⟨h3, by omega, Nat.gcd_pos_of_pos_left _ h1.1, Nat.le_trans (Nat.gcd_le_left _ h1.1) h1.2⟩
def litI (x : Int) : Lit := .int .i64 x
theorem sameKey_int (a b : Int) : (litI a).sameKey (litI b) = (a == b) := by
  by_cases h : a = b
  · subst h; rw [WideAt.sameKey_self (by unfold litI; trivial)]; simp
  · rw [Maps.sameKey_ne (by unfold litI; intro e; injection e with _ e; exact h e)]; simp [h]
theorem addKey_lit (acc : List Int) (x : Int) : Maps.addKey (acc.map litI) (litI x) = (addI acc x).map litI := by
  unfold Maps.addKey addI
  have : (acc.map litI).any (fun y => y.sameKey (litI x)) = acc.any (fun y => y == x) := by
    rw [List.any_map]
    congr 1
    funext y
    exact sameKey_int y x
  rw [this]
  split <;> simp
theorem foldl_lit (xs : List Int) : ∀ acc : List Int, (xs.map litI).foldl Maps.addKey (acc.map litI) = (xs.foldl addI acc).map litI := by
  induction xs with
  | nil => intro acc; rfl
  | cons x xs ih => intro acc; simp only [List.map_cons, List.foldl_cons]; rw [addKey_lit, ih]
theorem size_seen {H : Type} (u : DataW H) (xs : List Int) : Maps.size (Maps.setOf u (xs.map litI)) = ((xs.foldl addI []).length : Nat) := by
  rw [Maps.size_setOf u _ (fun x hx => by
    obtain ⟨y, _, rfl⟩ := List.mem_map.1 hx
    unfold litI; trivial)]
  have := foldl_lit xs []
  rw [List.map_nil] at this
  rw [this, List.length_map]
end Go.Proofs.Ytbikpadjmmgpcaa
namespace Go.Proofs.Ytbikpadjmmgpcaa
open Go.RowKit
set_option linter.unusedVariables false
set_option linter.unusedSimpArgs false
end Go.Proofs.Ytbikpadjmmgpcaa
namespace Go.Proofs.Ytbikpadjmmgpcaa
open Go.RowKit
set_option linter.unusedVariables false
set_option linter.unusedSimpArgs false
theorem sz2 (w : World) (a b : Obj) : w.heap.size + 2 ≤ ((w.alloc a).alloc b).heap.size := by simp
theorem sz3 (w : World) (a b c : Obj) : w.heap.size + 2 ≤ (((w.alloc a).alloc b).alloc c).heap.size := by simp
theorem own_emptyAt (w : World) (e : TypeId) (base n : Nat) (hn : n = w.heap.size) (hb : base ≤ w.heap.size) : (w.alloc (.cells #[] e)).ownsRow base e 1 (.slice (some ⟨n, 0, none⟩) 0 0) 0 [] := by subst hn; exact own_empty w e base hb
/-- Two boxes, and the lists that have been made so far. -/
structure Twins (w : World) (cs : Array Value) (z : Array Value) (W : World) : Prop where
  below : Below w.heap.size w W
  size : w.heap.size + 2 ≤ W.heap.size
  box : W.heap[w.heap.size]? = some (.cells cs 42)
  out : W.heap[w.heap.size + 1]? = some (.cells z 42)
theorem Twins.start (w : World) (cs z : Array Value) : Twins w cs z ((w.alloc (.cells cs 42)).alloc (.cells z 42)) :=
  ⟨alc2 _ _ _, by simp, (Below.heap_alloc _ _ _ (by simp)).trans (heap_alloc_new _ _), by have h := heap_alloc_new (w.alloc (.cells cs 42)) (.cells z 42); rw [World.size_alloc] at h; exact h⟩
theorem Twins.step {w : World} {cs z : Array Value} {W W2 : World} (h : Twins w cs z W) (o : Obj) (hb : Below (w.heap.size + 2) (W.alloc o) W2) : Twins w cs z W2 := by
  have h1 := h.size
  have hW : Below (w.heap.size + 2) W W2 := ((Below.refl _ _).alloc h1 o).trans hb
  exact ⟨h.below.trans (hW.mono (by omega)), Nat.le_trans h1 hW.size, (hW.block _ (by omega)).trans h.box, (hW.block _ (by omega)).trans h.out⟩
theorem Twins.alloc {w : World} {cs z : Array Value} {W : World} (h : Twins w cs z W) (o : Obj) : Twins w cs z (W.alloc o) := h.step o (Below.refl _ _)
theorem Twins.put {w : World} {cs z : Array Value} {W : World} (h : Twins w cs z W) (i : Nat) (u : Value) : Twins w (cs.setIfInBounds i u) z (W.setCell ⟨w.heap.size, i, none⟩ u) :=
  ⟨h.below.setCell (p := ⟨w.heap.size, i, none⟩) (Nat.le_refl _) u, by have := h.size; simpa [World.setCell] using this, heap_setAt h.box, (Below.heap_setCell _ _ _ _ (by show w.heap.size + 1 ≠ w.heap.size; omega)).trans h.out⟩
end Go.Proofs.Ytbikpadjmmgpcaa
namespace Go.Proofs.Ytbikpadjmmgpcaa
open Go.RowKit
set_option linter.unusedVariables false
set_option linter.unusedSimpArgs false
theorem Twins.next' {w : World} {cs z : Array Value} {W W2 : World} (h : Twins w cs z W) (hb : Below W.heap.size W W2) : Twins w cs z W2 :=
  ⟨h.below.trans (hb.mono h.below.size), Nat.le_trans h.size hb.size, (hb.block _ (Array.getElem?_eq_some_iff.1 h.box).1).trans h.box, (hb.block _ (Array.getElem?_eq_some_iff.1 h.out).1).trans h.out⟩
theorem Twins.nextB {w : World} {cs z : Array Value} {W W2 : World} (h : Twins w cs z W) (hb : Below (w.heap.size + 2) W W2) : Twins w cs z W2 :=
  ⟨h.below.trans (hb.mono (by omega)), Nat.le_trans h.size hb.size, (hb.block _ (by omega)).trans h.box, (hb.block _ (by omega)).trans h.out⟩
theorem Twins.fam {w : World} {a0 a1 a2 a3 a4 a5 b0 b1 b2 b3 b4 b5 : Value} {W : World} {ι : Type} {fam : ι → World} (h : Twins w #[a0, a1, a2, a3, a4, a5] #[b0, b1, b2, b3, b4, b5] W) (hf : ∀ n, Below W.heap.size W (fam n)) :
    ((∀ n, (fam n).cell? ⟨w.heap.size, 0, none⟩ = some a0) ∧ (∀ n, (fam n).cell? ⟨w.heap.size, 1, none⟩ = some a1) ∧ (∀ n, (fam n).cell? ⟨w.heap.size, 2, none⟩ = some a2) ∧ (∀ n, (fam n).cell? ⟨w.heap.size, 3, none⟩ = some a3) ∧ (∀ n, (fam n).cell? ⟨w.heap.size, 4, none⟩ = some a4) ∧ (∀ n, (fam n).cell? ⟨w.heap.size, 5, none⟩ = some a5)) ∧
    ((∀ n, (fam n).cell? ⟨w.heap.size + 1, 0, none⟩ = some b0) ∧ (∀ n, (fam n).cell? ⟨w.heap.size + 1, 1, none⟩ = some b1) ∧ (∀ n, (fam n).cell? ⟨w.heap.size + 1, 2, none⟩ = some b2) ∧ (∀ n, (fam n).cell? ⟨w.heap.size + 1, 3, none⟩ = some b3) ∧ (∀ n, (fam n).cell? ⟨w.heap.size + 1, 4, none⟩ = some b4) ∧ (∀ n, (fam n).cell? ⟨w.heap.size + 1, 5, none⟩ = some b5)) :=
  ⟨⟨fun n => (prog_cells (h.next' (hf n)).box).1, fun n => (prog_cells (h.next' (hf n)).box).2.1, fun n => (prog_cells (h.next' (hf n)).box).2.2.1, fun n => (prog_cells (h.next' (hf n)).box).2.2.2.1, fun n => (prog_cells (h.next' (hf n)).box).2.2.2.2.1, fun n => (prog_cells (h.next' (hf n)).box).2.2.2.2.2⟩,
   ⟨fun n => (prog_cells (h.next' (hf n)).out).1, fun n => (prog_cells (h.next' (hf n)).out).2.1, fun n => (prog_cells (h.next' (hf n)).out).2.2.1, fun n => (prog_cells (h.next' (hf n)).out).2.2.2.1, fun n => (prog_cells (h.next' (hf n)).out).2.2.2.2.1, fun n => (prog_cells (h.next' (hf n)).out).2.2.2.2.2⟩⟩
/-- Which differences have been seen. -/
def marks (g : Nat) (l : List Int) : List Bool := (List.range g).map fun (d : Nat) => l.any fun y => y == (d : Int)
theorem marks_length (g : Nat) (l : List Int) : (marks g l).length = g := by simp [marks]
theorem marks_get (g : Nat) (l : List Int) (d : Nat) (h : d < g) : (marks g l)[d]? = some (l.any fun y => y == (d : Int)) := by simp [marks, h]
theorem marks_nil (g : Nat) : marks g [] = List.replicate g false := by
  apply List.ext_getElem?
  intro k
  simp [marks, List.getElem?_replicate]
  by_cases h : k < g <;> simp [h]
theorem marks_hit (g : Nat) (l : List Int) (d : Nat) (h : d < g) (hm : (l.any fun y => y == (d : Int)) = false) : (marks g l).set d true = marks g (addI l d) := by
  apply List.ext_getElem?
  intro k
  rw [List.getElem?_set, marks_length]
  unfold addI
  rw [hm]
  by_cases hk : k < g
  · rw [marks_get _ _ _ hk]
    by_cases hdk : d = k
    · subst hdk; rw [marks_get _ _ _ hk]; simp [h]
    · rw [if_neg hdk, marks_get _ _ _ hk]
      have : ((d : Int) == (k : Int)) = false := beq_eq_false_iff_ne.2 (by omega)
      simp [this]
  · have h1 : (marks g l)[k]? = none := List.getElem?_eq_none (by rw [marks_length]; omega)
    have h2 : (marks g (l ++ [(d : Int)]))[k]? = none := List.getElem?_eq_none (by rw [marks_length]; omega)
    rw [if_neg (by omega), h1]
    simp [h2]
end Go.Proofs.Ytbikpadjmmgpcaa
namespace Go.Proofs.Ytbikpadjmmgpcaa
open Go.RowKit
set_option linter.unusedVariables false
set_option linter.unusedSimpArgs false
/-- The row of gaps at one shift: the first k steps. -/
def gapRow (p : Prog) (s : Int) (k : Nat) : List Int := (List.range k).map fun (a : Nat) => p.adv + p.throw * (atR (liftL p.ros p.rub) ((a : Int) - s) - atR (liftL p.ros p.rub) a)
def gapPre (p : Prog) (k : Nat) : List Int := (p.shifts.take k).flatMap fun s => gapRow p s p.ros.length
def minL (a : Int) (l : List Int) : Int := l.foldl (fun x y => min x y) a
def gapI (p : Prog) : Int := minL 1099511627776 (gapPre p p.shifts.length)
theorem gapRow_succ (p : Prog) (s : Int) (k : Nat) : gapRow p s (k + 1) = gapRow p s k ++ [p.adv + p.throw * (atR (liftL p.ros p.rub) ((k : Int) - s) - atR (liftL p.ros p.rub) k)] := by
  unfold gapRow; rw [List.range_succ]; simp
theorem gapRow_length (p : Prog) (s : Int) (k : Nat) : (gapRow p s k).length = k := by simp [gapRow]
theorem gapPre_succ (p : Prog) (k : Nat) (h : k < p.shifts.length) : gapPre p (k + 1) = gapPre p k ++ gapRow p p.shifts[k] p.ros.length := by
  unfold gapPre; rw [List.take_succ_eq_append_getElem h, List.flatMap_append]; simp
theorem gapPre_length (p : Prog) (k : Nat) (h : k ≤ p.shifts.length) : (gapPre p k).length = k * p.ros.length := by
  induction k with
  | zero => simp [gapPre]
  | succ k ih => rw [gapPre_succ p k (by omega), List.length_append, ih (by omega), gapRow_length, Nat.succ_mul]
theorem minL_append (a : Int) (l m : List Int) : minL a (l ++ m) = minL (minL a l) m := by simp [minL]
theorem minL_snoc (a : Int) (l : List Int) (x : Int) : minL a (l ++ [x]) = min (minL a l) x := by simp [minL]
theorem minL_cons (a x : Int) (l : List Int) : minL a (x :: l) = minL (min a x) l := rfl
theorem minL_bound (a : Int) (l : List Int) (lo hi : Int) (ha : lo ≤ a ∧ a ≤ hi) (h : ∀ x ∈ l, lo ≤ x ∧ x ≤ hi) : lo ≤ minL a l ∧ minL a l ≤ hi := by
  induction l generalizing a with
  | nil => exact ha
  | cons x l ih =>
    rw [minL_cons]
    exact ih _ (by have := h x (by simp); omega) fun y hy => h y (by simp [hy])
theorem mul_diff (t x y : Int) (ht : 1 ≤ t ∧ t ≤ 16) (hx : 0 ≤ x ∧ x ≤ 10000) (hy : 0 ≤ y ∧ y ≤ 10000) : -160000 ≤ t * (x - y) ∧ t * (x - y) ≤ 160000 := by
  have h1 := mul_small x t hx ht
  have h2 := mul_small y t hy ht
  have : t * (x - y) = x * t - y * t := by rw [Int.mul_sub, Int.mul_comm, Int.mul_comm t y]
  omega
theorem gap_bound {p : Prog} (hp : BenchFacts p) : ∀ x ∈ gapPre p p.shifts.length, -200000 ≤ x ∧ x ≤ 200000 := by
  intro x hx
  unfold gapPre at hx
  rw [List.mem_flatMap] at hx
  obtain ⟨s, _, hx⟩ := hx
  unfold gapRow at hx
  rw [List.mem_map] at hx
  obtain ⟨a, _, rfl⟩ := hx
  have hl := lift_ok hp.ros hp.rub
  have h1 := mul_diff p.throw _ _ hp.throw (atR_height hl ((a : Int) - s)) (atR_height hl a)
  have h2 := hp.adv
  omega
set_option maxHeartbeats 1000000 in
theorem pf_Min (v : Value) (x : Int) (xs : List Int) (w : World) (hv : Ints w v (x :: xs)) :
    Calls Try.prog 38 #[v] w fun e w' => e = .returned (.int .i64 (minL x xs)) ∧ w = w' := by
  have hv0 := Lib.hid hv
  obtain ⟨A, c, rfl, hlc, hcm, _, hr⟩ := hv
  unfold maxLen at hcm
  obtain ⟨b, off, rfl, hb, hc⟩ := hr (by simp)
  have hc0 : w.cell? ⟨b, off, none⟩ = some (.int .i64 x) := hc 0 (by simp)
  have hcs : ∀ k (h : k < xs.length), w.cell? ⟨b, off + (k + 1), none⟩ = some (.int .i64 xs[k]) := fun k h => hc (k + 1) (Nat.succ_lt_succ h)
  have hN : (x :: xs).length = xs.length + 1 := rfl
  rw [hN] at hlc ⊢
  have i1 : (0 : Int) < ((xs.length + 1 : Nat) : Int) := by omega
  have i2 : ¬ (((xs.length + 1 : Nat) : Int) < 1) := by omega
  have hcs' := Lib.hid hcs
  have hc' := Lib.hid hc
  have hr' := Lib.hid hr
  have hN' := Lib.hid hN
  clear hN hr hc hcs
  go_enter Try.func38, Try.ntmps38
  go_wp2
  go_loop [4, 3] (fun i m => ∃ k : Nat, k ≤ xs.length ∧ i = .int .i64 ((k + 1 : Nat) : Int) ∧ m = .int .i64 (minL x (xs.take k))) (fun i _ => xs.length + 1 - (intOf i).toNat)
  case atStart => exact ⟨0, Nat.zero_le _, rfl, by simp [minL]⟩
  case round =>
    obtain ⟨k, hk, rfl, rfl⟩ := hrel
    by_cases hlt : k < xs.length
    · have hck := hcs'.out k hlt
      have hsuc : minL x (xs.take (k + 1)) = min (minL x (xs.take k)) xs[k] := by rw [List.take_succ_eq_append_getElem hlt, minL_snoc]
      generalize xs[k] = y at hck hsuc
      generalize minL x (xs.take k) = m at hsuc
      have hsuc' := Lib.hid hsuc
      clear hsuc
      have i3 : ((k + 1 : Nat) : Int) < ((xs.length + 1 : Nat) : Int) := by omega
      have i4 : (0 : Int) ≤ ((k + 1 : Nat) : Int) := by omega
      go_wp2
      go_round
      case rel => exact ⟨k + 1, by omega, by go_num, by rw [hsuc'.out]; show Value.int _ _ = _; congr 1; first | rfl | (split <;> omega) | omega⟩
      case measure => simp [intOf]; omega
    · obtain rfl : k = xs.length := by omega
      rw [List.take_of_length_le (Nat.le_refl _)]
      go_wp2
      go_ret
      exact ⟨rfl, rfl⟩
end Go.Proofs.Ytbikpadjmmgpcaa
namespace Go.Proofs.Ytbikpadjmmgpcaa
open Go.RowKit
set_option linter.unusedVariables false
set_option linter.unusedSimpArgs false
theorem atR_at {f : List Int} {i : Int} {q : Nat} (hq : i % (f.length : Int) = (q : Int)) (hl : q < f.length) : atR f i = f[q] := by
  have h1 : atR f i = atR f (q : Int) := atR_mod _ _ _ (by rw [hq]; exact (Int.emod_eq_of_lt (by omega) (by omega)).symm)
  rw [h1, atR_nat q hl]
end Go.Proofs.Ytbikpadjmmgpcaa
namespace Go.Proofs.Ytbikpadjmmgpcaa
open Go.RowKit
set_option linter.unusedVariables false
set_option linter.unusedSimpArgs false
attribute [local go_sem ↓] Go.wp_at_zero Go.wp_at_succ
theorem gap_min {p : Prog} (hp : BenchFacts p) {y : Int} {ys : List Int} (h : gapPre p p.shifts.length = y :: ys) : minL y ys = gapI p := by
  unfold gapI
  have hb := gap_bound hp
  rw [h] at hb ⊢
  have := hb y (by simp)
  rw [minL_cons, show min 1099511627776 y = y by omega]
set_option maxRecDepth 100000 in
set_option maxHeartbeats 4000000 in
theorem pf_pat_Gap_ok (v : Value) (p : Prog) (w : World) (hv : IsProg w v p) (hE : progE p = 0) :
    Calls Try.prog 15 #[v] w fun e w' => e = .returned (.tuple #[.int .i64 (gapI p), .int .i64 0]) ∧ Below w.heap.size w w' := by
  have hv0 := Lib.hid hv
  obtain ⟨v0, v1, v5, rfl, h0, h1, h5⟩ := hv
  have h5' := Lib.hid h5
  obtain ⟨A5, c5, rfl, hc5, hm5, _, _⟩ := id h5
  unfold maxLen at hm5
  clear h0 h1 h5
  have hp := benchFacts hE
  have hs0 := hp.sh0
  have hs1 := hp.sh1
  have hr0 := hp.ros0
  have hr1 := hp.ros1
  have hth := hp.throw
  have hadv := hp.adv
  have hlo := lift_ok hp.ros hp.rub
  have hlh := (rosOk_iff.1 hlo).2.2
  have hL0 := liftL_length p.ros p.rub
  have hrow := gapRow_succ p
  have hpre := gapPre_succ p
  have hlenp := gapPre_length p
  obtain ⟨y0, ys0, hy0⟩ : ∃ y ys, gapPre p p.shifts.length = y :: ys := by
    have h := gapPre_length p p.shifts.length (Nat.le_refl _)
    cases hg : gapPre p p.shifts.length with
    | nil => rw [hg] at h; have := Nat.mul_pos hs0 (show 0 < p.ros.length by omega); simp at h; omega
    | cons y ys => exact ⟨y, ys, rfl⟩
  have hmin := Lib.hid (gap_min hp hy0)
  obtain ⟨L, hLe⟩ : ∃ L, liftL p.ros p.rub = L := ⟨_, rfl⟩
  rw [hLe] at hlh hL0 hlo
  simp only [hLe] at hrow
  have hE' := Lib.hid hE
  have hrow' := Lib.hid hrow
  have hpre' := Lib.hid hpre
  have hlo' := Lib.hid hlo
  have hlh' := Lib.hid hlh
  have hlenp' := Lib.hid hlenp
  have hy0' := Lib.hid hy0
  clear hy0 hlenp hlh hlo hpre hrow hE
  go_enter Try.func15, Try.ntmps15
  go_wp2_with (first | (go_at_call 33; ((with_reducible refine (pf_mounted _ p _ (hv0.out.below (alc1 _ _)) 0 hE'.out).mono ?_); rintro e w' ⟨vb, rfl, hb1, -, hok⟩; obtain ⟨b, rfl, hbb, hbench⟩ := hok rfl; have hbox := (Box.start w _).next hb1; have hbench' := Lib.hid hbench; have hblt := hbench.lt; obtain ⟨p0, p1, p2, p3, p4, p5⟩ := hbox.prog; clear hb1 hok hbb hbench)))
  have hbel := Lib.hid hbox.below
  have hblk := Lib.hid hbox.block
  have hwlt := hbox.lt
  obtain ⟨x5, xl, -, hl, -, -, -, -, c6, c7, -, -⟩ := hbench'.out.cells
  rw [hLe] at hl
  obtain ⟨lA, lc, rfl, hlc, hlm, -, -⟩ := id hl
  rw [hL0] at c6 hlc
  unfold maxLen at hlm
  have hLe' := Lib.hid hLe
  have hl' := Lib.hid hl
  have c6' := Lib.hid c6
  have c7' := Lib.hid c7
  clear c7 c6 hl hLe
  clear p0 p1 p2 p3 p4 p5 hbox
  obtain ⟨n0, hn0⟩ : ∃ n0, w'.heap.size = n0 := ⟨_, rfl⟩
  rw [hn0] at hblt hwlt
  have hn0' := Lib.hid hn0
  clear hn0
  go_loopw [22, 6] (fun i l wr => ∃ k : Nat, k ≤ p.shifts.length ∧ i = .int .i64 k ∧ Hid (Below n0 w' wr) ∧ n0 ≤ wr.heap.size ∧ Hid (wr.ownsRow n0 3 1 l (gapPre p k).length ((gapPre p k).map vint))) (fun i _ _ => p.shifts.length - (intOf i).toNat)
  case atStart => exact ⟨0, Nat.zero_le _, rfl, Lib.hid (Below.refl _ _), by rw [hn0'.out]; exact Nat.le_refl _, Lib.hid (World.ownsRow_nil _ _ _ _)⟩
  case round =>
    obtain ⟨k, hk, rfl, hbw, hwn, hown⟩ := hrel
    by_cases hlt : k < p.shifts.length
    · have hM := Lib.hid (hpre'.out k hlt)
      have hxs := hp.sh k hlt
      obtain ⟨sb, so, hA, hbz, hck⟩ := (h5'.out.below hbel.out).look hlt
      subst hA
      replace hck := (hbw.out.cell (p := ⟨sb, so + k, none⟩) (by rw [← hn0'.out]; exact hbz)).trans hck
      obtain ⟨x, hx⟩ : ∃ x, p.shifts[k] = x := ⟨_, rfl⟩
      rw [hx] at hxs hM hck
      have d6 := (hbw.out.cell (p := ⟨b, 6, none⟩) hblt).trans c6'.out
      have hlk := hlenp'.out k hk
      have hkn : k * p.ros.length ≤ 12 * 96 := Nat.mul_le_mul (by omega) hr1
      have hx' := Lib.hid hx
      clear hx
      go_wp2
      rename World => w0
      go_loopw [31, 6] (fun i l wi => ∃ a : Nat, a ≤ p.ros.length ∧ i = .int .i64 a ∧ Hid (Below n0 w' wi) ∧ n0 ≤ wi.heap.size ∧ Hid (wi.ownsRow n0 3 1 l (gapPre p k ++ gapRow p x a).length ((gapPre p k ++ gapRow p x a).map vint))) (fun i _ _ => p.ros.length - (intOf i).toNat)
      case atStart => exact ⟨0, Nat.zero_le _, rfl, hbw, hwn, Lib.hid (by simpa [gapRow] using hown.out)⟩
      case round =>
        clear hbw hwn hown hck d6
        obtain ⟨a, ha, rfl, hbw, hwn, hown⟩ := hrel
        by_cases hal : a < p.ros.length
        · have haL : a < L.length := by omega
          obtain ⟨lb, lo, hA, hlz, hla⟩ := hl'.out.look haL
          subst hA
          have hq0 := Int.emod_nonneg ((a : Int) - x) (show (p.ros.length : Int) ≠ 0 by omega)
          have hq1 := Int.emod_lt_of_pos ((a : Int) - x) (show (0 : Int) < (p.ros.length : Int) by omega)
          obtain ⟨q, hq⟩ : ∃ q : Nat, ((a : Int) - x) % (p.ros.length : Int) = (q : Int) := ⟨_, (Int.toNat_of_nonneg hq0).symm⟩
          have hqL : q < L.length := by omega
          obtain ⟨lb2, lo2, hA2, hlz2, hlq⟩ := hl'.out.look hqL
          injection hA2 with hA2
          injection hA2 with e1 e2
          subst e1 e2
          rw [hn0'.out] at hlz
          have hsuc := hrow'.out x a
          rw [atR_at (f := L) (i := (a : Int) - x) (q := q) (by rw [hL0]; exact hq) hqL, atR_nat a haL] at hsuc
          have hy1 := hlh'.out q hqL
          have hy2 := hlh'.out a haL
          have hlr := gapRow_length p x a
          replace hla := (hbw.out.cell (p := ⟨lb, lo + a, none⟩) hlz).trans hla
          generalize L[q] = y at hlq hsuc hy1
          generalize L[a] = z at hla hsuc hy2
          have hmd := mul_diff p.throw y z hth hy1 hy2
          have hcall : ∀ W : World, Calls Try.prog 34 #[.int .i64 ((a : Int) - x), .int .i64 p.ros.length] W fun e w' => e = .returned (.int .i64 q) ∧ W = w' := fun W => by
            have h := pf_pat_modulo ((a : Int) - x) p.ros.length W (by omega) (by omega) (by unfold Mid; omega)
            rw [hq] at h
            exact h
          have hS : ∀ W, Below n0 w' W → W.cell? ⟨w.heap.size, 3, none⟩ = some (.int .i64 p.throw) ∧ W.cell? ⟨w.heap.size, 4, none⟩ = some (.int .i64 p.adv) ∧ W.cell? ⟨b, 6, none⟩ = some (.slice (some ⟨lb, lo, none⟩) p.ros.length lc) ∧ W.cell? ⟨b, 7, none⟩ = some (.int .i64 p.ros.length) ∧ W.cell? ⟨lb, lo + q, none⟩ = some (.int .i64 y) := fun W h => by
            have e := prog_cells ((h.block w.heap.size hwlt).trans hblk.out)
            exact ⟨e.2.2.2.1, e.2.2.2.2.1, (h.cell (p := ⟨b, 6, none⟩) hblt).trans c6'.out, (h.cell (p := ⟨b, 7, none⟩) hblt).trans c7'.out, (h.cell (p := ⟨lb, lo + q, none⟩) hlz).trans hlq⟩
          obtain ⟨s1, s2, s3, s4, s5⟩ := hS wr hbw.out
          have i3 : (0 : Int) ≤ (a : Int) := by omega
          have i4 : (a : Int) < (p.ros.length : Int) := by omega
          have i5 : (0 : Int) ≤ (q : Int) := by omega
          have i6 : (q : Int) < (p.ros.length : Int) := by omega
          have j1 : IntKind.i64.wrap ((a : Int) - x) = (a : Int) - x := IntWalk.i64_in _ (by omega)
          have j2 : IntKind.i64.wrap (y - z) = y - z := IntWalk.i64_in _ (by omega)
          have j3 : IntKind.i64.wrap (p.throw * (y - z)) = p.throw * (y - z) := IntWalk.i64_in _ (by omega)
          have j4 : IntKind.i64.wrap (p.adv + p.throw * (y - z)) = p.adv + p.throw * (y - z) := IntWalk.i64_in _ (by omega)
          have hwn2 : w.heap.size < wr.heap.size := by omega
          have hbn2 : b < wr.heap.size := by omega
          have hln2 : lb < wr.heap.size := by omega
          have hGl : (gapPre p k ++ gapRow p x a).length ≤ 2000 := by rw [List.length_append, hlk, hlr]; omega
          have hG2 : gapPre p k ++ gapRow p x (a + 1) = (gapPre p k ++ gapRow p x a) ++ [p.adv + p.throw * (y - z)] := by rw [hsuc, List.append_assoc]
          generalize gapPre p k ++ gapRow p x a = G at hown hGl hG2
          have hcall' := Lib.hid hcall
          have hq' := Lib.hid hq
          have hsuc' := Lib.hid hsuc
          have hS' := Lib.hid hS
          have hlq' := Lib.hid hlq
          have hG2' := Lib.hid hG2
          clear hG2 hlq hS hsuc hq hcall
          go_wp2
          go_region_held3 (fun w' => w'.cell? ⟨w.heap.size, 3, none⟩ = some (.int .i64 p.throw) ∧ w'.cell? ⟨w.heap.size, 4, none⟩ = some (.int .i64 p.adv) ∧ w'.cell? ⟨b, 6, none⟩ = some (.slice (some ⟨lb, lo, none⟩) p.ros.length lc) ∧ w'.cell? ⟨b, 7, none⟩ = some (.int .i64 p.ros.length) ∧ w'.cell? ⟨lb, lo + q, none⟩ = some (.int .i64 y)) (go_keep) (first | (go_at_call 34; refine (hcall'.out _).mono ?_; rintro e w' ⟨rfl, rfl⟩) | (refine step_appI rfl (.tmp 36) (.tmp 59) 22 (by rfl) n0 3 elemInt u6 G (by rfl) (hown.out.alloc _) (.slice (some ⟨_, 0, none⟩) 1 1) [p.adv + p.throw * (y - z)] (by rfl) (by first | exact one_newD _ _ _ | exact one_newI _ _ _) (by simp; omega) (by first | omega | (simp; omega)) ?_; intro v2 w2 ho2 hb2 hg2 _; have hB2 : Below n0 w' w2 := (by first | exact ((hbw.out.alloc hwn _).drew).trans hb2 | exact (hbw.out.alloc hwn _).trans hb2); obtain ⟨t1, t2, t3, t4, t5⟩ := hS'.out _ hB2; have ho2' := Lib.hid ho2; clear ho2 hg2))
          have hn2 := hB2.size
          go_wp2
          go_roundw
          case rel => exact ⟨a + 1, by omega, by go_num, Lib.hid hB2, by rw [hn0'.out] at hn2; exact hn2, Lib.hid (by rw [hG2'.out]; simpa using ho2'.out)⟩
          case measure => simp [intOf]; omega
        · obtain rfl : a = p.ros.length := by omega
          go_wp2
          go_roundw
          case rel => exact ⟨k + 1, by omega, by go_num, hbw, hwn, Lib.hid (by rw [hM.out]; exact hown.out)⟩
          case measure => simp [intOf]; omega
    · obtain rfl : k = p.shifts.length := by omega
      have hI := own_ints hown.out
      rw [hy0'.out] at hI
      have hI' := Lib.hid hI
      clear hI hown
      go_wp2_with (first | (go_at_call 38; ((with_reducible refine (pf_Min _ y0 ys0 _ hI'.out).mono ?_); rintro e w' ⟨rfl, rfl⟩; rw [hmin.out])))
      go_ret2
      exact ⟨rfl, hbel.out.trans (hbw.out.mono (by omega))⟩
set_option maxHeartbeats 1000000 in
theorem pf_pat_Gap (v : Value) (p : Prog) (w : World) (hv : IsProg w v p) (E : Int) (hE : progE p = E) :
    Calls Try.prog 15 #[v] w fun e w' => e = .returned (.tuple #[.int .i64 (onOkI E (gapI p)), .int .i64 E]) ∧ Below w.heap.size w w' := by
  by_cases hE0 : E = 0
  · subst hE0
    exact pf_pat_Gap_ok v p w hv hE
  · have hv0 := Lib.hid hv
    obtain ⟨v0, v1, v5, rfl, h0, h1, h5⟩ := hv
    clear h0 h1 h5
    have hne : (E != 0) = true := by simpa using hE0
    rw [onOkI_ne hE0]
    have hE' := Lib.hid hE
    have hE0' := Lib.hid hE0
    clear hE0 hE
    go_enter Try.func15, Try.ntmps15
    go_wp2_with (first | (go_at_call 33; ((with_reducible refine (pf_mounted _ p _ (hv0.out.below (alc1 _ _)) E hE'.out).mono ?_); rintro e w' ⟨vb, rfl, hb1, hn1, -⟩; have hn2 := hn1 hE0'.out; subst hn2; clear hn1)))
    go_ret2
    exact ⟨rfl, ((Box.start w _).next hb1).below⟩
end Go.Proofs.Ytbikpadjmmgpcaa
namespace Go.Proofs.Ytbikpadjmmgpcaa
open Go.RowKit
set_option linter.unusedVariables false
set_option linter.unusedSimpArgs false
theorem upon_makeI {P : Program} {w : World} {o : Oper} {a : Act} {K : Act → World → Prop} {Q : Exit → Act → World → Prop} (t : TypeId) (d : Nat) (hd : o.dst = some d) (base : Nat) (e : TypeId) (hE : Elem1 P t e (.int .i64 0) 8)
    (n : Nat) (hn : n ≤ 1000000000) (b4 : base ≤ w.heap.size)
    (hK : ∀ w', w'.ownsRow base e 1 (.slice (some ⟨w.heap.size, 0, none⟩) n n) n ((zerosI n).map vint) → Below w.heap.size w w' → w.heap.size < w'.heap.size → K (a.put (some d) (.slice (some ⟨w.heap.size, 0, none⟩) n n)) w') :
    Oper.upon P o a K Q (((Instr.makeSlice t (.int .i64 (n : Int)) (.int .i64 (n : Int))).run P w).andThen fun a w' => Result.ok (Next.value a) w') := by
  obtain ⟨ht, hi, hzs⟩ := hE
  obtain ⟨i, hi0, hz, hsz, hby⟩ := info_parts hi
  obtain ⟨w', hrun, h1, h2⟩ := run_make_full (P := P) w base t e i (.int .i64 0) 1 ht hi0 hz hsz .i64 .i64 n (by rw [hby]; omega) (by unfold maxLen; omega) b4
  rw [hrun]
  show K (a.put o.dst _) w'
  rw [hd]
  refine hK w' ?_ ((Below.refl _ _).grown h2 (Nat.le_refl _) (by simp)) ((h1.lt w.heap.size rfl).2)
  rcases h1.2 with ⟨h, _⟩ | ⟨g, cap, cur, hv, hb, hh, hnc, hcm, hs, htake⟩
  · simp at h
  · refine ⟨by simp [zerosI], .inr ⟨g, cap, cur, hv, hb, hh, hnc, hcm, hs, ?_⟩⟩
    rw [htake]
    apply List.ext_getElem?
    intro k
    simp [zerosI, madeCells, Value.cells, List.getElem?_replicate]
    by_cases hk : k < n
    · simp [hk, Nat.mod_one]
    · simp [hk]
/-- The heights of the shapes, and mirrored. -/
def hgtL (p : Prog) : List Int := (liftL p.ros p.rub).map (p.throw * ·)
def ovrL (p : Prog) : List Int := (List.range (liftL p.ros p.rub).length).map fun (i : Nat) => p.throw * atR (liftL p.ros p.rub) (-(i : Int))
def offF (p : Prog) (m : Bool) : List Int := if m then ovrL p else hgtL p
def offHit (p q : Prog) (m : Bool) (s : Nat) : Bool := turnL (offF p m) s == hgtL q
def offN (p q : Prog) (m : Bool) : Option Nat := (List.range p.ros.length).find? (offHit p q m)
def offV (p q : Prog) (m : Bool) : Nat := match offN p q m with | some s => s % per p | none => 0
def offB (p q : Prog) (m : Bool) : Bool := (offN p q m).isSome
/-- A list, filled from the front. -/
def fillL (F : List Int) (k : Nat) : List Int := F.take k ++ zerosI (F.length - k)
theorem fill_zero (F : List Int) : fillL F 0 = zerosI F.length := by simp [fillL]
theorem fill_all (F : List Int) : fillL F F.length = F := by simp [fillL, zerosI]
theorem fill_length (F : List Int) (k : Nat) (h : k ≤ F.length) : (fillL F k).length = F.length := by simp [fillL, zerosI_length]; omega
theorem fill_set (F : List Int) (k : Nat) (h : k < F.length) : (fillL F k).set k F[k] = fillL F (k + 1) := by
  unfold fillL zerosI
  rw [List.set_append_right _ _ (by simp; omega)]
  have e1 : F.length - k = (F.length - (k + 1)) + 1 := by omega
  rw [e1, List.replicate_succ, List.length_take, Nat.min_eq_left (by omega), Nat.sub_self, List.set_cons_zero, List.take_succ_eq_append_getElem h, List.append_assoc]
  rfl
theorem fill_set2 (F : List Int) (k : Nat) (x : Int) (h : k < F.length) : ((fillL F k).set k x).set k F[k] = fillL F (k + 1) := by rw [List.set_set, fill_set F k h]
theorem fill_get (F : List Int) (k : Nat) (h : k < F.length) : (fillL F k)[k]? = some 0 := by
  unfold fillL zerosI
  rw [List.getElem?_append_right (by simp; omega)]
  simp [List.getElem?_replicate]
  omega
theorem hgt_length (p : Prog) : (hgtL p).length = p.ros.length := by simp [hgtL, liftL_length]
theorem ovr_length (p : Prog) : (ovrL p).length = p.ros.length := by simp [ovrL, liftL_length]
theorem offF_length (p : Prog) (m : Bool) : (offF p m).length = p.ros.length := by unfold offF; split <;> simp [hgt_length, ovr_length]
/-- The two lists of offset. -/
structure OffSt (B0 gf gg n : Nat) (w W : World) (L1 L2 : List Int) : Prop where
  below : Below B0 w W
  size : B0 ≤ W.heap.size
  f : W.ownsRow B0 3 1 (.slice (some ⟨gf, 0, none⟩) n n) n (L1.map vint)
  g : W.ownsRow B0 3 1 (.slice (some ⟨gg, 0, none⟩) n n) n (L2.map vint)
theorem OffSt.setF {B0 gf gg n : Nat} {w W : World} {L1 L2 : List Int} (h : OffSt B0 gf gg n w W L1 L2) (hne : gf ≠ gg) (hf : B0 ≤ gf) (k : Nat) (x : Int) : OffSt B0 gf gg n w (W.setCell ⟨gf, k, none⟩ (.int .i64 x)) (L1.set k x) L2 :=
  ⟨h.below.setCell (p := ⟨gf, k, none⟩) hf _, by simpa [World.setCell] using h.size, own_put h.f k x, ownsRow_setCell_other h.g (by simp [Value.ownBlock]; omega) _⟩
theorem OffSt.setG {B0 gf gg n : Nat} {w W : World} {L1 L2 : List Int} (h : OffSt B0 gf gg n w W L1 L2) (hne : gf ≠ gg) (hg : B0 ≤ gg) (k : Nat) (x : Int) : OffSt B0 gf gg n w (W.setCell ⟨gg, k, none⟩ (.int .i64 x)) L1 (L2.set k x) :=
  ⟨h.below.setCell (p := ⟨gg, k, none⟩) hg _, by simpa [World.setCell] using h.size, ownsRow_setCell_other h.f (by simp [Value.ownBlock]; omega) _, own_put h.g k x⟩
theorem OffSt.next {B0 gf gg n : Nat} {w W W2 : World} {L1 L2 : List Int} (h : OffSt B0 gf gg n w W L1 L2) (hb : Below W.heap.size W W2) : OffSt B0 gf gg n w W2 L1 L2 :=
  ⟨h.below.trans (hb.mono h.size), Nat.le_trans h.size hb.size, own_below h.f hb, own_below h.g hb⟩
theorem OffSt.drewN {B0 gf gg n : Nat} {w W : World} {L1 L2 : List Int} (h : OffSt B0 gf gg n w W L1 L2) (k : Nat) : OffSt B0 gf gg n w (W.drewN k) L1 L2 := h.next (Below.of_drewN _ _)
theorem offF_at (p : Prog) (m : Bool) (k : Nat) (h : k < (offF p m).length) (h2 : k < (liftL p.ros p.rub).length) : (offF p m)[k] = p.throw * (if m then atR (liftL p.ros p.rub) (-(k : Int)) else (liftL p.ros p.rub)[k]) := by
  cases m with
  | true => simp [offF, ovrL]
  | false => simp [offF, hgtL]
theorem hgt_at (p : Prog) (k : Nat) (h : k < (hgtL p).length) (h2 : k < (liftL p.ros p.rub).length) : (hgtL p)[k] = p.throw * (liftL p.ros p.rub)[k] := by simp [hgtL]
theorem off_hit {p q : Prog} {m : Bool} {k : Nat} (hk : k < p.ros.length) (h : offHit p q m k = true) (hn : ∀ j, j < k → offHit p q m j = false) : offN p q m = some k := by
  unfold offN
  rw [List.find?_range_eq_some]
  exact ⟨h, by simpa using hk, fun j hj => by simp [hn j hj]⟩
theorem off_miss {p q : Prog} {m : Bool} (hn : ∀ j, j < p.ros.length → offHit p q m j = false) : offN p q m = none := by
  unfold offN
  rw [List.find?_eq_none]
  intro x hx
  simp [hn x (by simpa using hx)]
theorem mul_thr (t x : Int) (ht : 1 ≤ t ∧ t ≤ 16) (hx : 0 ≤ x ∧ x ≤ 10000) : 0 ≤ t * x ∧ t * x ≤ 160000 := by
  have h1 : 0 ≤ t * x := Int.mul_nonneg (by omega) hx.1
  have h2 : t * x ≤ 16 * x := Int.mul_le_mul_of_nonneg_right ht.2 hx.1
  omega
set_option maxRecDepth 100000 in
set_option maxHeartbeats 1000000 in
theorem pf_offset (b c : Nat) (p q : Prog) (m : Bool) (w : World) (hb : IsBench w b p) (hc : IsBench w c q) (hp : BenchFacts p) (hq : BenchFacts q) (hlen : p.ros.length = q.ros.length) :
    Calls Try.prog 60 #[.pointer (some ⟨b, 0, none⟩), .pointer (some ⟨c, 0, none⟩), .bool m] w fun e w' => e = .returned (.tuple #[.int .i64 (offV p q m : Nat), .bool (offB p q m)]) ∧ Below w.heap.size w w' := by
  have hB := Lib.hid hb
  have hC := Lib.hid hc
  have hbl := hb.lt
  have hcl := hc.lt
  obtain ⟨_, vl, -, hvl, -, c3, -, -, c6, c7, -, c9⟩ := hb.cells
  obtain ⟨_, vm, -, hvm, -, d3, -, -, d6, d7, -, d9⟩ := hc.cells
  clear hb hc
  replace c9 : w.cell? ⟨b, 9, none⟩ = some (.int .i64 (per p)) := c9
  have hpr := hp.ros1
  have hr0 := hp.ros0
  have hth := hp.throw
  have hthq := hq.throw
  have hlo := lift_ok hp.ros hp.rub
  have hlh := (rosOk_iff.1 hlo).2.2
  have hloq := lift_ok hq.ros hq.rub
  have hlhq := (rosOk_iff.1 hloq).2.2
  have hL0 := liftL_length p.ros p.rub
  have hM0 := liftL_length q.ros q.rub
  have hFl := offF_length p m
  have hGl := hgt_length q
  have hFa := offF_at p m
  have hGa := hgt_at q
  have hit := fun k => @off_hit p q m k
  have miss := @off_miss p q m
  have hhe : ∀ s, offHit p q m s = (turnL (offF p m) s == hgtL q) := fun s => rfl
  have hpp := per_pos hp
  rw [← hlen] at d7 hM0 hGl
  generalize hn : p.ros.length = n at *
  generalize hLe : liftL p.ros p.rub = L at *
  generalize hMe : liftL q.ros q.rub = M at *
  obtain ⟨la, lo, lc, rfl, hla, hlc, hlm, hlk⟩ := Ints.cells hvl (by omega)
  obtain ⟨ma, mo, mc, rfl, hma, hmc, hmm, hmk⟩ := Ints.cells hvm (by omega)
  rw [hL0] at c6 hlc
  rw [hM0] at d6 hmc
  unfold maxLen at hlm hmm
  generalize hFe : offF p m = F at *
  generalize hGe : hgtL q = G at *
  generalize hNp : per p = Np at *
  have hcells : ∀ W, Below w.heap.size w W → (W.cell? ⟨b, 3, none⟩ = some (.int .i64 p.throw) ∧ W.cell? ⟨b, 6, none⟩ = some (.slice (some ⟨la, lo, none⟩) n lc) ∧ W.cell? ⟨b, 7, none⟩ = some (.int .i64 n) ∧ W.cell? ⟨b, 9, none⟩ = some (.int .i64 Np)) ∧ (W.cell? ⟨c, 3, none⟩ = some (.int .i64 q.throw) ∧ W.cell? ⟨c, 6, none⟩ = some (.slice (some ⟨ma, mo, none⟩) n mc) ∧ W.cell? ⟨c, 7, none⟩ = some (.int .i64 n)) := fun W h =>
    ⟨⟨(h.cell (p := ⟨b, 3, none⟩) hbl).trans c3, (h.cell (p := ⟨b, 6, none⟩) hbl).trans c6, (h.cell (p := ⟨b, 7, none⟩) hbl).trans c7, (h.cell (p := ⟨b, 9, none⟩) hbl).trans c9⟩, ⟨(h.cell (p := ⟨c, 3, none⟩) hcl).trans d3, (h.cell (p := ⟨c, 6, none⟩) hcl).trans d6, (h.cell (p := ⟨c, 7, none⟩) hcl).trans d7⟩⟩
  have hlks : ∀ W, Below w.heap.size w W → ∀ k (hk : k < L.length), W.cell? ⟨la, lo + k, none⟩ = some (.int .i64 L[k]) := fun W h k hk => (h.cell (p := ⟨la, lo + k, none⟩) hla).trans (hlk k hk)
  have hmks : ∀ W, Below w.heap.size w W → ∀ k (hk : k < M.length), W.cell? ⟨ma, mo + k, none⟩ = some (.int .i64 M[k]) := fun W h k hk => (h.cell (p := ⟨ma, mo + k, none⟩) hma).trans (hmk k hk)
  clear c3 c6 c9 d3 d6 hlk hmk hvl hvm
  have hn' := Lib.hid hn
  have hlen' := Lib.hid hlen
  have hLe' := Lib.hid hLe
  have hMe' := Lib.hid hMe
  have hFe' := Lib.hid hFe
  have hGe' := Lib.hid hGe
  have hNp' := Lib.hid hNp
  have hcells' := Lib.hid hcells
  have hlks' := Lib.hid hlks
  have hmks' := Lib.hid hmks
  have hlo' := Lib.hid hlo
  have hlh' := Lib.hid hlh
  have hloq' := Lib.hid hloq
  have hlhq' := Lib.hid hlhq
  have hFl' := Lib.hid hFl
  have hGl' := Lib.hid hGl
  have hFa' := Lib.hid hFa
  have hGa' := Lib.hid hGa
  have hit' := Lib.hid hit
  have miss' := Lib.hid miss
  have hhe' := Lib.hid hhe
  have hpp' := Lib.hid hpp
  clear hpp hhe miss hit hGa hFa hGl hFl hlhq hloq hlh hlo hmks hlks hcells hNp hGe hFe hMe hLe hlen hn
  go_enter Try.func60, Try.ntmps60
  go_wp2
  go_region_held3 (fun w' => w'.cell? ⟨b, 7, none⟩ = some (.int .i64 n) ∧ w'.cell? ⟨c, 7, none⟩ = some (.int .i64 n)) (first | go_keep | (refine ⟨?_, ?_⟩ <;> (go_split_ands; first | exact (hbf.cell (p := ⟨b, 7, none⟩) (by first | exact hbl | (show b < _; omega))).trans (by assumption) | exact (hbf.cell (p := ⟨c, 7, none⟩) (by first | exact hcl | (show c < _; omega))).trans (by assumption) | exact (hbg.cell (p := ⟨b, 7, none⟩) (by first | exact hbl | (show b < _; omega))).trans (by assumption) | exact (hbg.cell (p := ⟨c, 7, none⟩) (by first | exact hcl | (show c < _; omega))).trans (by assumption)))) (first | (refine upon_makeI 22 19 (by rfl) w.heap.size 3 elemInt n (by omega) (by first | omega | (simp; done) | (simp; omega)) ?_; intro wf hof hbf hlf; have hlf2 : w.heap.size < wf.heap.size := (by first | omega | (simp at hlf; omega))) | (refine upon_makeI 22 24 (by rfl) w.heap.size 3 elemInt n (by omega) (by first | omega | (simp; done) | (simp; omega)) ?_; intro wg hog hbg hlg; have hlg2 : w.heap.size < wg.heap.size := (by first | omega | (simp at hlg; omega))))
  all_goals
    obtain ⟨B0, hB0⟩ : ∃ B, B = w.heap.size := ⟨_, rfl⟩
    rename_i hHeld
    clear hHeld
    first
    | (have hBW : Below B0 w wg := by rw [hB0]; exact (((Below.refl w.heap.size w).drew).trans hbf).trans (hbg.mono (by omega))
       have hof0 : wg.ownsRow B0 3 1 (.slice (some ⟨w.heap.size, 0, none⟩) n n) n ((zerosI n).map vint) := by rw [hB0]; exact own_below (show wf.ownsRow w.heap.size 3 1 (.slice (some ⟨w.heap.size, 0, none⟩) n n) n ((zerosI n).map vint) from hof) hbg
       have hog0 : wg.ownsRow B0 3 1 (.slice (some ⟨wf.heap.size, 0, none⟩) n n) n ((zerosI n).map vint) := by rw [hB0]; exact hog
       have hfg : w.heap.size ≠ wf.heap.size := by omega
       have hf0 : B0 ≤ w.heap.size := by omega
       have hg0 : B0 ≤ wf.heap.size := by omega
       have hz0 : B0 ≤ wg.heap.size := by omega
       rw [← hB0] at hbl hcl
       clear hof hbf hlf hlf2 hog hbg hlg hlg2
       generalize wf.heap.size = gg at *
       generalize hgf : w.heap.size = gf at *
       generalize wg = W0 at *)
    | (have hBW : Below B0 w wf := by rw [hB0]; exact (((Below.refl w.heap.size w).drew).trans hbg).trans (hbf.mono (by omega))
       have hof0 : wf.ownsRow B0 3 1 (.slice (some ⟨wg.heap.size, 0, none⟩) n n) n ((zerosI n).map vint) := by rw [hB0]; exact hof
       have hog0 : wf.ownsRow B0 3 1 (.slice (some ⟨w.heap.size, 0, none⟩) n n) n ((zerosI n).map vint) := by rw [hB0]; exact own_below (show wg.ownsRow w.heap.size 3 1 (.slice (some ⟨w.heap.size, 0, none⟩) n n) n ((zerosI n).map vint) from hog) hbf
       have hfg : wg.heap.size ≠ w.heap.size := by omega
       have hf0 : B0 ≤ wg.heap.size := by omega
       have hg0 : B0 ≤ w.heap.size := by omega
       have hz0 : B0 ≤ wf.heap.size := by omega
       rw [← hB0] at hbl hcl
       clear hof hbf hlf hlf2 hog hbg hlg hlg2
       generalize wg.heap.size = gf at *
       generalize hgf : w.heap.size = gg at *
       generalize wf = W0 at *)
    have hst : OffSt B0 gf gg n w W0 (zerosI n) (zerosI n) := ⟨hBW, hz0, hof0, hog0⟩
    clear hBW hof0 hog0 hz0
    have hcells2 : ∀ W, Below B0 w W → _ := fun W h => hcells'.out W (by rw [← hB0]; exact h)
    have hlks2 : ∀ W, Below B0 w W → _ := fun W h => hlks'.out W (by rw [← hB0]; exact h)
    have hmks2 : ∀ W, Below B0 w W → _ := fun W h => hmks'.out W (by rw [← hB0]; exact h)
    clear hcells' c7 d7 hlks' hmks'
    obtain ⟨⟨c3, c6, c7, c9⟩, ⟨d3, d6, d7⟩⟩ := hcells2 _ hst.below
    have hgf' := Lib.hid hgf
    have hcells2' := Lib.hid hcells2
    have hlks2' := Lib.hid hlks2
    have hmks2' := Lib.hid hmks2
    have hB0' := Lib.hid hB0
    clear hB0 hmks2 hlks2 hcells2 hgf
    clear c3 c9 d3 d6 d7
    go_wp2
    clear c6 c7
    go_loopw [30] (fun i wr => ∃ k : Nat, k ≤ n ∧ i = .int .i64 k ∧ Hid (OffSt B0 gf gg n w wr (fillL F k) (zerosI n))) (fun i _ => n - (intOf i).toNat)
    case atStart => exact ⟨0, Nat.zero_le _, rfl, Lib.hid (by rw [fill_zero, hFl'.out]; exact hst)⟩
    case round =>
      clear hst
      obtain ⟨k, hk, rfl, hst⟩ := hrel
      obtain ⟨⟨c3, c6, c7, c9⟩, ⟨d3, d6, d7⟩⟩ := hcells2'.out _ hst.out.below
      clear c9
      by_cases hlt : k < n
      · have hkL : k < L.length := by omega
        have hkF : k < F.length := by rw [hFl'.out]; exact hlt
        have hFk := hFa'.out k hkF hkL
        have hf1 := fill_set F k hkF
        have hf2 := fun x => fill_set2 F k x hkF
        have ck := hlks2'.out _ hst.out.below k hkL
        have gk := own_cell hst.out.f (by rw [fill_length F k (by omega), hFl'.out]) (fill_get F k hkF)
        have gfz := hst.out.f.frozenAt k
        have hx := hlh'.out k hkL
        have hmt := mul_thr p.throw L[k] hth hx
        have i3 : (0 : Int) ≤ (k : Int) := by omega
        have i4 : (k : Int) < (n : Int) := by omega
        clear d3 d6 d7 c7
        cases m with
        | false =>
          simp only [Bool.false_eq_true, if_false] at hFk
          generalize L[k] = x at hx hmt hFk ck
          have hset := hst.out.setF hfg hf0 k (p.throw * x)
          rw [← hFk, hf1] at hset
          have hf1' := Lib.hid hf1
          have hf2' := Lib.hid hf2
          have hFk' := Lib.hid hFk
          have hset' := Lib.hid hset
          clear hset hFk hf2 hf1
          go_wp2
          go_roundw
          case rel => exact ⟨k + 1, by omega, by go_num, Lib.hid (by rw [← hFk'.out]; exact hset'.out)⟩
          case measure => simp [intOf]; omega
        | true =>
          simp only [if_true] at hFk
          have hst1 := hst.out.setF hfg hf0 k (p.throw * L[k])
          have hq0 := Int.emod_nonneg (-(k : Int)) (show (n : Int) ≠ 0 by omega)
          have hq1 := Int.emod_lt_of_pos (-(k : Int)) (show (0 : Int) < (n : Int) by omega)
          obtain ⟨r, hr⟩ : ∃ r : Nat, (-(k : Int)) % (n : Int) = (r : Int) := ⟨_, (Int.toNat_of_nonneg hq0).symm⟩
          have hrL : r < L.length := by omega
          rw [atR_at (f := L) (i := -(k : Int)) (q := r) (by rw [hL0]; exact hr) hrL] at hFk
          have hxr := hlh'.out r hrL
          have hmr := mul_thr p.throw L[r] hth hxr
          generalize L[k] = x at hx hmt ck hst1
          have hcall : ∀ W : World, Calls Try.prog 34 #[.int .i64 (-(k : Int)), .int .i64 n] W fun e w' => e = .returned (.int .i64 r) ∧ W = w' := fun W => by
            have h := pf_pat_modulo (-(k : Int)) n W (by omega) (by omega) (by unfold Mid; omega)
            rw [hr] at h
            exact h
          have hlr := fun W h => hlks2'.out W h r hrL
          generalize L[r] = y at hFk hxr hmr hlr
          have hf1' := Lib.hid hf1
          have hf2' := Lib.hid hf2
          have hFk' := Lib.hid hFk
          have hst1' := Lib.hid hst1
          have hcall' := Lib.hid hcall
          have hr' := Lib.hid hr
          have hlr' := Lib.hid hlr
          clear hlr hr hcall hst1 hFk hf2 hf1
          go_wp2
          have hst2 := hst1'.out
          have hlen1 : ((fillL F k).set k (p.throw * x)).length = n := by rw [List.length_set, fill_length F k (by omega), hFl'.out]
          have gk := own_cell hst2.f hlen1 (x := p.throw * x) (by rw [List.getElem?_set_self (by rw [fill_length F k (by omega)]; exact hkF)])
          have gfz := hst2.f.frozenAt k
          have hst3 := fun nq => (hst2.drewN nq).setF hfg hf0 k (p.throw * y)
          rw [← hFk'.out] at hst3
          simp only [hf2'.out] at hst3
          obtain ⟨⟨c3, c6, c7, -⟩, -⟩ := hcells2'.out _ hst2.below
          have cr := hlr'.out _ hst2.below
          have i5 : (0 : Int) ≤ (r : Int) := by omega
          have i6 : (r : Int) < (n : Int) := by have := hr'.out; omega
          have j1 : IntKind.i64.wrap (-(k : Int)) = -(k : Int) := IntWalk.i64_in _ (by omega)
          generalize wr.setCell ⟨gf, k, none⟩ (.int .i64 (p.throw * x)) = W1 at hst2 gk gfz hst3 c3 c6 c7 cr ⊢
          have hst2' := Lib.hid hst2
          have hst3' := Lib.hid hst3
          have hlen1' := Lib.hid hlen1
          clear hlen1 hst3 hst2
          refine wp_region_quiet_tail 22 (by kernel_rfl) (by kernel_rfl) ?_
          simp only [List.take_succ_cons, List.take_zero, List.drop_succ_cons, List.drop_zero]
          repeat (go_big_quiet_step (first | (go_at_call 34; exact quiet_same' (hcall'.out _))))
          refine wpQuiet_nil ?_
          intro _ hw'
          obtain ⟨nq, hw''⟩ := hw'
          subst hw''
          go_wp2
          go_roundw
          case rel => exact ⟨k + 1, by omega, by go_num, Lib.hid (by have h := hst3'.out nq; rw [hFk'.out] at h; exact h)⟩
          case measure => simp [intOf]; omega
      · obtain rfl : k = n := by omega
        have e1 := fill_all F
        rw [hFl'.out] at e1
        rw [e1] at hst
        clear e1 c3 c6 c7 d3 d7
        clear hFa' hlks2' hlh'
        go_wp2
        clear d6
        go_loopw [74] (fun i wr => ∃ j : Nat, j ≤ k ∧ i = .int .i64 j ∧ Hid (OffSt B0 gf gg k w wr F (fillL G j))) (fun i _ => k - (intOf i).toNat)
        case atStart => exact ⟨0, Nat.zero_le _, rfl, Lib.hid (by rw [fill_zero, hGl'.out]; exact hst.out)⟩
        case round =>
          clear hst
          obtain ⟨j, hj, rfl, hst⟩ := hrel
          obtain ⟨⟨c3, c6, c7, c9⟩, ⟨d3, d6, d7⟩⟩ := hcells2'.out _ hst.out.below
          by_cases hlt2 : j < k
          · have hkL : j < M.length := by omega
            have hkF : j < G.length := by rw [hGl'.out]; exact hlt2
            have hFk := hGa'.out j hkF hkL
            have hf1 := fill_set G j hkF
            have ck := hmks2'.out _ hst.out.below j hkL
            have gk := own_cell hst.out.g (by rw [fill_length G j (by omega), hGl'.out]) (fill_get G j hkF)
            have gfz := hst.out.g.frozenAt j
            have hx := hlhq'.out j hkL
            have hmt := mul_thr q.throw M[j] hthq hx
            have i3 : (0 : Int) ≤ (j : Int) := by omega
            have i4 : (j : Int) < (k : Int) := by omega
            clear c3 c6 c7 c9 d7
            generalize M[j] = x at hx hmt hFk ck
            have hset := hst.out.setG hfg hg0 j (q.throw * x)
            rw [← hFk, hf1] at hset
            have hf1' := Lib.hid hf1
            have hFk' := Lib.hid hFk
            have hset' := Lib.hid hset
            clear hset hFk hf1
            go_wp2
            go_roundw
            case rel => exact ⟨j + 1, by omega, by go_num, Lib.hid (by rw [← hFk'.out]; exact hset'.out)⟩
            case measure => simp [intOf]; omega
          · obtain rfl : j = k := by omega
            have e1 := fill_all G
            rw [hGl'.out] at e1
            rw [e1] at hst
            clear e1 c3 c6 c9 d3 d6 d7 hlt hlt2 hk hj
            clear hGa' hmks2' hlhq'
            go_wp2
            clear c7
            go_loopw [94] (fun i wr => ∃ s : Nat, s ≤ j ∧ i = .int .i64 s ∧ Hid (OffSt B0 gf gg j w wr F G) ∧ Hid (∀ t, t < s → offHit p q m t = false)) (fun i _ => j - (intOf i).toNat)
            case atStart => exact ⟨0, Nat.zero_le _, rfl, hst, Lib.hid (fun t h => absurd h (Nat.not_lt_zero _))⟩
            case round =>
              clear hst
              obtain ⟨s, hs, rfl, hst, hno⟩ := hrel
              obtain ⟨⟨-, -, c7, c9⟩, -⟩ := hcells2'.out _ hst.out.below
              by_cases hlt3 : s < j
              · obtain ⟨kk, hkk⟩ : ∃ kk : Nat, (j : Int) - (s : Int) = (kk : Int) := ⟨j - s, by omega⟩
                have hkl : kk ≤ j := by omega
                have hks : j - s = kk := by omega
                have hof : wr.ownsRow B0 3 1 (.slice (some ⟨gf, 0, none⟩) F.length j) F.length (F.map vint) := by rw [hFl'.out]; exact hst.out.f
                have hog : wr.ownsRow B0 3 1 (.slice (some ⟨gg, 0, none⟩) j j) G.length (G.map vint) := by rw [hGl'.out]; exact hst.out.g
                have hFi : Ints wr (.slice (some ⟨gf, 0, none⟩) F.length j) F := own_ints hof
                have hGi : Ints wr (.slice (some ⟨gg, 0, none⟩) j j) G := own_ints hog
                have r1 := fun W => run_cut_l (elemInt : Elem1 Try.prog 22 3 (.int .i64 0) 8) (some ⟨gf, 0, none⟩) j j kk hkl W
                have r2 := fun W => run_cut_h (elemInt : Elem1 Try.prog 22 3 (.int .i64 0) 8) (some ⟨gf, 0, none⟩) j j kk hkl W
                have hA1 := hFi.cut kk F.length (by rw [hFl'.out]; exact hkl) (Nat.le_refl _)
                have hA2 := hFi.cut 0 kk (Nat.zero_le _) (by rw [hFl'.out]; exact hkl)
                have e0 : cutA (some ⟨gf, 0, none⟩) j 0 = some ⟨gf, 0, none⟩ := by
                  unfold cutA
                  split
                  · rfl
                  · simp [Addr.add]
                rw [e0, Nat.sub_zero, Nat.sub_zero, List.drop_zero] at hA2
                have e1 : (F.drop kk).take (F.length - kk) = F.drop kk := List.take_of_length_le (by simp)
                rw [e1, hFl'.out] at hA1
                have hsp : turnL F s = [F.drop kk, F.take kk].flatten := by simp [turnL, hFl'.out, hks]
                have htl : (turnL F s).length ≤ 1000000 := by rw [turnL_length, hFl'.out]; omega
                generalize hX : cutA (some ⟨gf, 0, none⟩) j kk = X at r1 hA1
                have hcc : ∀ (v2 : Value) (W : World), Arr id W v2 [.slice X (j - kk) (j - kk), .slice (some ⟨gf, 0, none⟩) kk j] → Below wr.heap.size wr W → Calls Try.prog 78 #[v2] W fun e w' => ∃ v', e = .returned v' ∧ Below W.heap.size W w' ∧ Hid (Ints w' v' (turnL F s)) := by
                  intro v2 W h1 hb
                  refine (pf_Concat v2 _ [F.drop kk, F.take kk] W h1 rfl (fun a h h' => ?_) (by rw [← hsp]; exact htl) (by simp)).mono ?_
                  · match a, h, h' with
                    | 0, _, _ => exact hA1.below hb
                    | 1, _, _ => exact hA2.below hb
                  · rintro e w9 ⟨v9, rfl, h8, h9⟩
                    exact ⟨v9, rfl, h8, by rw [hsp]; exact Arr.of_own h9⟩
                obtain ⟨Bv, hBv⟩ : ∃ B, offHit p q m s = B := ⟨_, rfl⟩
                have heq : ∀ (v1 : Value) (W : World), Hid (Ints W v1 (turnL F s)) → Below wr.heap.size wr W → Calls Try.prog 77 #[v1, .slice (some ⟨gg, 0, none⟩) j j] W fun e w' => e = .returned (.bool Bv) ∧ ∃ n, w' = W.drewN n := by
                  intro v1 W h1 hb
                  have h := pf_Equal v1 _ (turnL F s) G W h1.out (hGi.below hb)
                  rw [← hhe'.out s, hBv] at h
                  exact h
                have hwk : IntKind.i64.wrap (kk : Int) = (kk : Int) := IntWalk.i64_in _ (by omega)
                have hwr : IntKind.i64.wrap ((j : Int) - (s : Int)) = (kk : Int) := by rw [hkk]; exact IntWalk.i64_in _ (by omega)
                have i1 : (0 : Int) ≤ (kk : Int) := by omega
                have i2 : (kk : Int) ≤ (j : Int) := by omega
                have hbw : b < wr.heap.size := by have := hst.out.size; omega
                clear hA1 hA2 e0 e1 hX hof hog hFi hGi
                have hcc' := Lib.hid hcc
                have heq' := Lib.hid heq
                have hsp' := Lib.hid hsp
                have htl' := Lib.hid htl
                have hkk' := Lib.hid hkk
                have hks' := Lib.hid hks
                have hBv' := Lib.hid hBv
                clear hBv hks hkk htl hsp heq hcc
                go_wp2
                go_region_held3 (fun w' => w'.cell? ⟨b, 7, none⟩ = some (.int .i64 j)) (first | go_keep | exact (hB1.cell (p := ⟨b, 7, none⟩) hbw).trans c7) (first | (go_at_call 78; refine (hcc'.out _ _ (one_two _ _ _ _) (by first | exact (alc1 _ _).drew)).mono ?_; rintro e w1 ⟨v1, rfl, h1, h2⟩; have hB1 : Below wr.heap.size wr w1 := (alc1 _ _).drew.trans (h1.mono (by simp))) | (go_at_call 77; refine (heq'.out _ _ h2 hB1).mono ?_; rintro e w2 ⟨rfl, nd, rfl⟩))
                have hst4 := (hst.out.next hB1).drewN nd
                rename_i hHeld
                clear hHeld
                obtain ⟨⟨-, -, c7, c9⟩, -⟩ := hcells2'.out _ hst4.below
                generalize w1.drewN nd = W5 at hst4 c7 c9 ⊢
                clear h1 h2 hB1 r1 r2 hwr hwk i1 i2 hcc' heq' hst
                have hpn := hpp'.out
                cases Bv with
                | true =>
                  have hh := hit'.out s hlt3 hBv'.out hno.out
                  have e1 : (s : Int).tmod (Np : Int) = ((s % Np : Nat) : Int) := rfl
                  have e2 : ((Np : Int) == 0) = false := beq_eq_false_iff_ne.2 (by omega)
                  have hsm : s % Np < Np := Nat.mod_lt _ (by omega)
                  have hbel := hst4.below
                  have hNv : s % Np = offV p q m := by unfold offV; rw [hh]; show s % Np = s % per p; rw [hNp'.out]
                  have hBb : offB p q m = true := by unfold offB; rw [hh]; rfl
                  rw [hNv] at e1 hsm
                  have j1 : IntKind.i64.wrap (offV p q m : Int) = (offV p q m : Int) := IntWalk.i64_in _ (by omega)
                  have hh' := Lib.hid hh
                  have hbel' := Lib.hid hbel
                  have hNv' := Lib.hid hNv
                  have hst4' := Lib.hid hst4
                  have hBb' := Lib.hid hBb
                  clear hBb hst4 hNv hbel hh
                  clear c7
                  go_wp2
                  go_ret2
                  exact ⟨by rw [hBb'.out]; rfl, by rw [hgf'.out, ← hB0'.out]; exact hbel'.out⟩
                | false =>
                  clear c7 c9
                  have hst4' := Lib.hid hst4
                  clear hst4
                  go_wp2
                  go_roundw
                  case rel => exact ⟨s + 1, by omega, by go_num, hst4', Lib.hid (fun t h => by
                    by_cases e : t = s
                    · subst e; exact hBv'.out
                    · exact hno.out t (by omega))⟩
                  case measure => simp [intOf]; omega
              · obtain rfl : s = j := by omega
                have hnone := miss'.out (fun t h => hno.out t h)
                have hbel := hst.out.below
                have hnone' := Lib.hid hnone
                have hbel' := Lib.hid hbel
                clear hbel hnone
                go_wp2
                go_ret2
                exact ⟨by unfold offV offB; rw [hnone'.out]; rfl, by rw [hgf'.out, ← hB0'.out]; exact hbel'.out⟩
end Go.Proofs.Ytbikpadjmmgpcaa
