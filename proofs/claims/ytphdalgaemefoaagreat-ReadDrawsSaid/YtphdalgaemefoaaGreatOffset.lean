/- Plain laws of two programs together: the beat, as a list of differences without repeats. Layer 4: erase, same, Twin, SameProgram. The reference of layer 4: Twin. The reference's Moire. The gap: slices.Min, the reference's Gap. The reference's Gap. pattern.Gap. pattern: bench.offset. -/
import Derived.Test.YtphdalgaemefoaaGreatP4Tells
import Derived.Test.YtphdalgaemefoaaGreatP4Lift
import Derived.Test.YtphdalgaemefoaaGreatBoxKit
import Derived.Test.YtphdalgaemefoaaGreatPatCheck
import Derived.Maps.OwnSet
import Derived.Maps.OwnIn
namespace Go.Proofs.YtphdalgaemefoaaGreat
set_option maxRecDepth 100000
open Go.RowKit
set_option linter.unusedVariables false
set_option linter.unusedSimpArgs false
def addI (acc : List Int) (x : Int) : List Int := if acc.any (fun y => y == x) then acc else acc ++ [x]
def commonG (p q : Prog) : Nat := Nat.gcd (per p) (per q)
def diffI (p q : Prog) (j : Nat) : Int := (phaseI p j - phaseI q j) % (commonG p q : Int)
def seenL (p q : Prog) (k : Nat) : List Int := ((List.range k).map (diffI p q)).foldl addI []
def lookN (p q : Prog) : Nat := p.shifts.length * q.shifts.length * commonG p q
def beatN (p q : Prog) : Nat := (seenL p q (lookN p q)).length
def togetherN (p q : Prog) : Nat := closeN p / Nat.gcd (closeN p) (closeN q) * closeN q
def moireE (p q : Prog) : Int := if progE p ≠ 0 then progE p else if progE q ≠ 0 then progE q else if p.ros.length ≠ q.ros.length then 2 else 0
theorem seenL_succ (p q : Prog) (k : Nat) : seenL p q (k + 1) = addI (seenL p q k) (diffI p q k) := by unfold seenL; rw [List.range_succ]; simp
theorem seenL_le (p q : Prog) (k : Nat) : (seenL p q k).length ≤ k := by
 induction k with
 | zero => simp [seenL]
 | succ k ih =>
  rw [seenL_succ]
  unfold addI
  split
  ·omega
  ·simp; omega
theorem common_bound {p q : Prog} (hp : BenchFacts p) (hq : BenchFacts q) : 1 ≤ commonG p q ∧ commonG p q ≤ 96 := by
 have h1 := per_pos hp
 have h2 := hp.ros1
 have := Nat.gcd_le_left (per q) h1.1
 exact ⟨Nat.gcd_pos_of_pos_left _ h1.1, by unfold commonG; omega⟩
theorem look_bound {p q : Prog} (hp : BenchFacts p) (hq : BenchFacts q) : lookN p q ≤ 13824 ∧ p.shifts.length * q.shifts.length ≤ 144 := by
 have h := common_bound hp hq
 have h1 : p.shifts.length * q.shifts.length ≤ 12 * 12 := Nat.mul_le_mul hp.sh1 hq.sh1
 have h2 : lookN p q ≤ 144 * 96 := Nat.mul_le_mul h1 h.2
 omega
theorem diff_bound {p q : Prog} (hp : BenchFacts p) (hq : BenchFacts q) (j : Nat) : 0 ≤ diffI p q j ∧ diffI p q j < commonG p q := by
 have h := common_bound hp hq
 exact ⟨Int.emod_nonneg _ (by omega), Int.emod_lt_of_pos _ (by omega)⟩
theorem together_bound {p q : Prog} (hp : BenchFacts p) (hq : BenchFacts q) : closeN p / Nat.gcd (closeN p) (closeN q) ≤ 1152 ∧ togetherN p q ≤ 2000000 ∧ 1 ≤ Nat.gcd (closeN p) (closeN q) ∧ Nat.gcd (closeN p) (closeN q) ≤ 1152 := by
 have h1 := (close_le hp).2.2
 have h2 := (close_le hq).2.2
 have h3 : closeN p / Nat.gcd (closeN p) (closeN q) ≤ 1152 := Nat.le_trans (Nat.div_le_self _ _) h1.2
 have h4 : togetherN p q ≤ 1152 * 1152 := Nat.mul_le_mul h3 h2.2
 exact ⟨h3, by omega, Nat.gcd_pos_of_pos_left _ h1.1, Nat.le_trans (Nat.gcd_le_left _ h1.1) h1.2⟩
def litI (x : Int) : Lit := .int .i64 x
theorem sameKey_int (a b : Int) : (litI a).sameKey (litI b) = (a == b) := by
 by_cases h : a = b
 ·subst h; rw [WideAt.sameKey_self (by unfold litI; trivial)]; simp
 ·rw [Maps.sameKey_ne (by unfold litI; intro e; injection e with _ e; exact h e)]; simp [h]
theorem addKey_lit (acc : List Int) (x : Int) : Maps.addKey (acc.map litI) (litI x) = (addI acc x).map litI := by
 unfold Maps.addKey addI
 have : (acc.map litI).any (fun y => y.sameKey (litI x)) = acc.any (fun y => y == x) := by
  rw [List.any_map]
  congr 1
  funext y
  exact sameKey_int y x
 rw [this]
 split <;> simp
theorem foldl_lit (xs : List Int) : ∀ acc : List Int, (xs.map litI).foldl Maps.addKey (acc.map litI) = (xs.foldl addI acc).map litI := by
 induction xs with
 | nil => intro acc; rfl
 | cons x xs ih => intro acc; simp only [List.map_cons, List.foldl_cons]; rw [addKey_lit, ih]
theorem size_seen {H : Type} (u : DataW H) (xs : List Int) : Maps.size (Maps.setOf u (xs.map litI)) = ((xs.foldl addI []).length : Nat) := by
 rw [Maps.size_setOf u _ (fun x hx => by
  obtain ⟨y, _, rfl⟩ := List.mem_map.1 hx
  unfold litI; trivial)]
 have := foldl_lit xs []
 rw [List.map_nil] at this
 rw [this, List.length_map]
end Go.Proofs.YtphdalgaemefoaaGreat
namespace Go.Proofs.YtphdalgaemefoaaGreat
set_option maxRecDepth 100000
open Go.RowKit
set_option linter.unusedVariables false
set_option linter.unusedSimpArgs false
end Go.Proofs.YtphdalgaemefoaaGreat
namespace Go.Proofs.YtphdalgaemefoaaGreat
set_option maxRecDepth 100000
open Go.RowKit
set_option linter.unusedVariables false
set_option linter.unusedSimpArgs false
theorem sz2 (w : World) (a b : Obj) : w.heap.size + 2 ≤ ((w.alloc a).alloc b).heap.size := by simp
theorem sz3 (w : World) (a b c : Obj) : w.heap.size + 2 ≤ (((w.alloc a).alloc b).alloc c).heap.size := by simp
theorem own_emptyAt (w : World) (e : TypeId) (base n : Nat) (hn : n = w.heap.size) (hb : base ≤ w.heap.size) : (w.alloc (.cells #[] e)).ownsRow base e 1 (.slice (some ⟨n, 0, none⟩) 0 0) 0 [] := by subst hn; exact own_empty w e base hb
structure Twins (w : World) (cs : Array Value) (z : Array Value) (W : World) : Prop where
 below : Below w.heap.size w W
 size : w.heap.size + 2 ≤ W.heap.size
 box : W.heap[w.heap.size]? = some (.cells cs 38)
 out : W.heap[w.heap.size + 1]? = some (.cells z 38)
theorem Twins.start (w : World) (cs z : Array Value) : Twins w cs z ((w.alloc (.cells cs 38)).alloc (.cells z 38)) :=
 ⟨alc2 _ _ _, by simp, (Below.heap_alloc _ _ _ (by simp)).trans (heap_alloc_new _ _), by have h := heap_alloc_new (w.alloc (.cells cs 38)) (.cells z 38); rw [World.size_alloc] at h; exact h⟩
theorem Twins.step {w : World} {cs z : Array Value} {W W2 : World} (h : Twins w cs z W) (o : Obj) (hb : Below (w.heap.size + 2) (W.alloc o) W2) : Twins w cs z W2 := by
 have h1 := h.size
 have hW : Below (w.heap.size + 2) W W2 := ((Below.refl _ _).alloc h1 o).trans hb
 exact ⟨h.below.trans (hW.mono (by omega)), Nat.le_trans h1 hW.size, (hW.block _ (by omega)).trans h.box, (hW.block _ (by omega)).trans h.out⟩
theorem Twins.alloc {w : World} {cs z : Array Value} {W : World} (h : Twins w cs z W) (o : Obj) : Twins w cs z (W.alloc o) := h.step o (Below.refl _ _)
theorem Twins.put {w : World} {cs z : Array Value} {W : World} (h : Twins w cs z W) (i : Nat) (u : Value) : Twins w (cs.setIfInBounds i u) z (W.setCell ⟨w.heap.size, i, none⟩ u) :=
 ⟨h.below.setCell (p := ⟨w.heap.size, i, none⟩) (Nat.le_refl _) u, by have := h.size; simpa [World.setCell] using this, heap_setAt h.box, (Below.heap_setCell _ _ _ _ (by show w.heap.size + 1 ≠ w.heap.size; omega)).trans h.out⟩
end Go.Proofs.YtphdalgaemefoaaGreat
namespace Go.Proofs.YtphdalgaemefoaaGreat
set_option maxRecDepth 100000
open Go.RowKit
set_option linter.unusedVariables false
set_option linter.unusedSimpArgs false
theorem Twins.next' {w : World} {cs z : Array Value} {W W2 : World} (h : Twins w cs z W) (hb : Below W.heap.size W W2) : Twins w cs z W2 :=
 ⟨h.below.trans (hb.mono h.below.size), Nat.le_trans h.size hb.size, (hb.block _ (gsl h.box)).trans h.box, (hb.block _ (gsl h.out)).trans h.out⟩
theorem Twins.nextB {w : World} {cs z : Array Value} {W W2 : World} (h : Twins w cs z W) (hb : Below (w.heap.size + 2) W W2) : Twins w cs z W2 :=
 ⟨h.below.trans (hb.mono (by omega)), Nat.le_trans h.size hb.size, (hb.block _ (by omega)).trans h.box, (hb.block _ (by omega)).trans h.out⟩
theorem Twins.fam {w : World} {a0 a1 a2 a3 a4 a5 b0 b1 b2 b3 b4 b5 : Value} {W : World} {ι : Type} {fam : ι → World} (h : Twins w #[a0, a1, a2, a3, a4, a5] #[b0, b1, b2, b3, b4, b5] W) (hf : ∀ n, Below W.heap.size W (fam n)) :
  ((∀ n, (fam n).cell? ⟨w.heap.size, 0, none⟩ = some a0) ∧ (∀ n, (fam n).cell? ⟨w.heap.size, 1, none⟩ = some a1) ∧ (∀ n, (fam n).cell? ⟨w.heap.size, 2, none⟩ = some a2) ∧ (∀ n, (fam n).cell? ⟨w.heap.size, 3, none⟩ = some a3) ∧ (∀ n, (fam n).cell? ⟨w.heap.size, 4, none⟩ = some a4) ∧ (∀ n, (fam n).cell? ⟨w.heap.size, 5, none⟩ = some a5)) ∧
  ((∀ n, (fam n).cell? ⟨w.heap.size + 1, 0, none⟩ = some b0) ∧ (∀ n, (fam n).cell? ⟨w.heap.size + 1, 1, none⟩ = some b1) ∧ (∀ n, (fam n).cell? ⟨w.heap.size + 1, 2, none⟩ = some b2) ∧ (∀ n, (fam n).cell? ⟨w.heap.size + 1, 3, none⟩ = some b3) ∧ (∀ n, (fam n).cell? ⟨w.heap.size + 1, 4, none⟩ = some b4) ∧ (∀ n, (fam n).cell? ⟨w.heap.size + 1, 5, none⟩ = some b5)) :=
 ⟨⟨fun n => (prog_cells (h.next' (hf n)).box).1, fun n => (prog_cells (h.next' (hf n)).box).2.1, fun n => (prog_cells (h.next' (hf n)).box).2.2.1, fun n => (prog_cells (h.next' (hf n)).box).2.2.2.1, fun n => (prog_cells (h.next' (hf n)).box).2.2.2.2.1, fun n => (prog_cells (h.next' (hf n)).box).2.2.2.2.2⟩,
  ⟨fun n => (prog_cells (h.next' (hf n)).out).1, fun n => (prog_cells (h.next' (hf n)).out).2.1, fun n => (prog_cells (h.next' (hf n)).out).2.2.1, fun n => (prog_cells (h.next' (hf n)).out).2.2.2.1, fun n => (prog_cells (h.next' (hf n)).out).2.2.2.2.1, fun n => (prog_cells (h.next' (hf n)).out).2.2.2.2.2⟩⟩
def marks (g : Nat) (l : List Int) : List Bool := (List.range g).map fun (d : Nat) => l.any fun y => y == (d : Int)
theorem marks_length (g : Nat) (l : List Int) : (marks g l).length = g := by simp [marks]
theorem marks_get (g : Nat) (l : List Int) (d : Nat) (h : d < g) : (marks g l)[d]? = some (l.any fun y => y == (d : Int)) := by simp [marks, h]
theorem marks_nil (g : Nat) : marks g [] = List.replicate g false := by
 apply List.ext_getElem?
 intro k
 simp [marks, List.getElem?_replicate]
 by_cases h : k < g <;> simp [h]
theorem marks_hit (g : Nat) (l : List Int) (d : Nat) (h : d < g) (hm : (l.any fun y => y == (d : Int)) = false) : (marks g l).set d true = marks g (addI l d) := by
 apply List.ext_getElem?
 intro k
 rw [List.getElem?_set, marks_length]
 unfold addI
 rw [hm]
 by_cases hk : k < g
 ·rw [marks_get _ _ _ hk]
  by_cases hdk : d = k
  ·subst hdk; rw [marks_get _ _ _ hk]; simp [h]
  ·rw [if_neg hdk, marks_get _ _ _ hk]
   have : ((d : Int) == (k : Int)) = false := beq_eq_false_iff_ne.2 (by omega)
   simp [this]
 ·have h1 : (marks g l)[k]? = none := List.getElem?_eq_none (by rw [marks_length]; omega)
  have h2 : (marks g (l ++ [(d : Int)]))[k]? = none := List.getElem?_eq_none (by rw [marks_length]; omega)
  rw [if_neg (by omega), h1]
  simp [h2]
theorem elemBool : Elem1 Tryz.prog 70 4 (.bool false) 1 := ⟨Tryz.underlying70, by kernel_rfl, rfl⟩
end Go.Proofs.YtphdalgaemefoaaGreat
namespace Go.Proofs.YtphdalgaemefoaaGreat
set_option maxRecDepth 100000
open Go.RowKit
set_option linter.unusedVariables false
set_option linter.unusedSimpArgs false
def gapRow (p : Prog) (s : Int) (k : Nat) : List Int := (List.range k).map fun (a : Nat) => p.adv + p.throw * (atR (liftL p.ros p.rub) ((a : Int) - s) - atR (liftL p.ros p.rub) a)
def gapPre (p : Prog) (k : Nat) : List Int := (p.shifts.take k).flatMap fun s => gapRow p s p.ros.length
def minL (a : Int) (l : List Int) : Int := l.foldl (fun x y => min x y) a
def gapI (p : Prog) : Int := minL 1099511627776 (gapPre p p.shifts.length)
theorem gapRow_succ (p : Prog) (s : Int) (k : Nat) : gapRow p s (k + 1) = gapRow p s k ++ [p.adv + p.throw * (atR (liftL p.ros p.rub) ((k : Int) - s) - atR (liftL p.ros p.rub) k)] := by
 unfold gapRow; rw [List.range_succ]; simp
theorem gapRow_length (p : Prog) (s : Int) (k : Nat) : (gapRow p s k).length = k := by simp [gapRow]
theorem gapPre_succ (p : Prog) (k : Nat) (h : k < p.shifts.length) : gapPre p (k + 1) = gapPre p k ++ gapRow p p.shifts[k] p.ros.length := by
 unfold gapPre; rw [List.take_succ_eq_append_getElem h, List.flatMap_append]; simp
theorem gapPre_length (p : Prog) (k : Nat) (h : k ≤ p.shifts.length) : (gapPre p k).length = k * p.ros.length := by
 induction k with
 | zero => simp [gapPre]
 | succ k ih => rw [gapPre_succ p k (by omega), List.length_append, ih (by omega), gapRow_length, Nat.succ_mul]
theorem minL_append (a : Int) (l m : List Int) : minL a (l ++ m) = minL (minL a l) m := by simp [minL]
theorem minL_snoc (a : Int) (l : List Int) (x : Int) : minL a (l ++ [x]) = min (minL a l) x := by simp [minL]
theorem minL_cons (a x : Int) (l : List Int) : minL a (x :: l) = minL (min a x) l := rfl
theorem minL_bound (a : Int) (l : List Int) (lo hi : Int) (ha : lo ≤ a ∧ a ≤ hi) (h : ∀ x ∈ l, lo ≤ x ∧ x ≤ hi) : lo ≤ minL a l ∧ minL a l ≤ hi := by
 induction l generalizing a with
 | nil => exact ha
 | cons x l ih =>
  rw [minL_cons]
  exact ih _ (by have := h x (by simp); omega) fun y hy => h y (by simp [hy])
theorem mul_diff (t x y : Int) (ht : 1 ≤ t ∧ t ≤ 16) (hx : 0 ≤ x ∧ x ≤ 10000) (hy : 0 ≤ y ∧ y ≤ 10000) : -160000 ≤ t * (x - y) ∧ t * (x - y) ≤ 160000 := by
 have h1 := mul_small x t hx ht
 have h2 := mul_small y t hy ht
 have : t * (x - y) = x * t - y * t := by rw [Int.mul_sub, Int.mul_comm, Int.mul_comm t y]
 omega
theorem gap_bound {p : Prog} (hp : BenchFacts p) : ∀ x ∈ gapPre p p.shifts.length, -200000 ≤ x ∧ x ≤ 200000 := by
 intro x hx
 unfold gapPre at hx
 rw [List.mem_flatMap] at hx
 obtain ⟨s, _, hx⟩ := hx
 unfold gapRow at hx
 rw [List.mem_map] at hx
 obtain ⟨a, _, rfl⟩ := hx
 have hl := lift_ok hp.ros hp.rub
 have h1 := mul_diff p.throw _ _ hp.throw (atR_height hl ((a : Int) - s)) (atR_height hl a)
 have h2 := hp.adv
 omega
end Go.Proofs.YtphdalgaemefoaaGreat
namespace Go.Proofs.YtphdalgaemefoaaGreat
set_option maxRecDepth 100000
open Go.RowKit
set_option linter.unusedVariables false
set_option linter.unusedSimpArgs false
theorem atR_at {f : List Int} {i : Int} {q : Nat} (hq : i % (f.length : Int) = (q : Int)) (hl : q < f.length) : atR f i = f[q] := by
 have h1 : atR f i = atR f (q : Int) := atR_mod _ _ _ (by rw [hq]; exact (Int.emod_eq_of_lt (by omega) (by omega)).symm)
 rw [h1, atR_nat q hl]
end Go.Proofs.YtphdalgaemefoaaGreat
namespace Go.Proofs.YtphdalgaemefoaaGreat
set_option maxRecDepth 100000
open Go.RowKit
set_option linter.unusedVariables false
set_option linter.unusedSimpArgs false
attribute [local go_sem ↓] Go.wp_at_zero Go.wp_at_succ
theorem gap_min {p : Prog} (hp : BenchFacts p) {y : Int} {ys : List Int} (h : gapPre p p.shifts.length = y :: ys) : minL y ys = gapI p := by
 unfold gapI
 have hb := gap_bound hp
 rw [h] at hb ⊢
 have := hb y (by simp)
 rw [minL_cons, show min 1099511627776 y = y by omega]
end Go.Proofs.YtphdalgaemefoaaGreat
namespace Go.Proofs.YtphdalgaemefoaaGreat
set_option maxRecDepth 100000
open Go.RowKit
set_option linter.unusedVariables false
set_option linter.unusedSimpArgs false
theorem upon_makeI {P : Program} {w : World} {o : Oper} {a : Act} {K : Act → World → Prop} {Q : Exit → Act → World → Prop} (t : TypeId) (d : Nat) (hd : o.dst = some d) (base : Nat) (e : TypeId) (hE : Elem1 P t e (.int .i64 0) 8)
  (n : Nat) (hn : n ≤ 1000000000) (b4 : base ≤ w.heap.size)
  (hK : ∀ w', w'.ownsRow base e 1 (.slice (some ⟨w.heap.size, 0, none⟩) n n) n ((zerosI n).map vint) → Below w.heap.size w w' → w.heap.size < w'.heap.size → K (a.put (some d) (.slice (some ⟨w.heap.size, 0, none⟩) n n)) w') :
  Oper.upon P o a K Q (((Instr.makeSlice t (.int .i64 (n : Int)) (.int .i64 (n : Int))).run P w).andThen fun a w' => Result.ok (Next.value a) w') := by
 obtain ⟨ht, hi, hzs⟩ := hE
 obtain ⟨i, hi0, hz, hsz, hby⟩ := info_parts hi
 obtain ⟨w', hrun, h1, h2⟩ := run_make_full (P := P) w base t e i (.int .i64 0) 1 ht hi0 hz hsz .i64 .i64 n (by rw [hby]; omega) (by unfold maxLen; omega) b4
 rw [hrun]
 show K (a.put o.dst _) w'
 rw [hd]
 refine hK w' ?_ ((Below.refl _ _).grown h2 (Nat.le_refl _) (by simp)) ((h1.lt w.heap.size rfl).2)
 rcases h1.2 with ⟨h, _⟩ | ⟨g, cap, cur, hv, hb, hh, hnc, hcm, hs, htake⟩
 ·simp at h
 ·refine ⟨by simp [zerosI], .inr ⟨g, cap, cur, hv, hb, hh, hnc, hcm, hs, ?_⟩⟩
  rw [htake]
  apply List.ext_getElem?
  intro k
  simp [zerosI, madeCells, Value.cells, List.getElem?_replicate]
  by_cases hk : k < n
  ·simp [hk, Nat.mod_one]
  ·simp [hk]
def hgtL (p : Prog) : List Int := (liftL p.ros p.rub).map (p.throw * ·)
def ovrL (p : Prog) : List Int := (List.range (liftL p.ros p.rub).length).map fun (i : Nat) => p.throw * atR (liftL p.ros p.rub) (-(i : Int))
def offF (p : Prog) (m : Bool) : List Int := if m then ovrL p else hgtL p
def offHit (p q : Prog) (m : Bool) (s : Nat) : Bool := turnL (offF p m) s == hgtL q
def offN (p q : Prog) (m : Bool) : Option Nat := (List.range p.ros.length).find? (offHit p q m)
def offV (p q : Prog) (m : Bool) : Nat := match offN p q m with | some s => s % per p | none => 0
def offB (p q : Prog) (m : Bool) : Bool := (offN p q m).isSome
def fillL (F : List Int) (k : Nat) : List Int := F.take k ++ zerosI (F.length - k)
theorem fill_zero (F : List Int) : fillL F 0 = zerosI F.length := by simp [fillL]
theorem fill_all (F : List Int) : fillL F F.length = F := by simp [fillL, zerosI]
theorem fill_length (F : List Int) (k : Nat) (h : k ≤ F.length) : (fillL F k).length = F.length := by simp [fillL, zerosI_length]; omega
theorem fill_set (F : List Int) (k : Nat) (h : k < F.length) : (fillL F k).set k F[k] = fillL F (k + 1) := by
 unfold fillL zerosI
 rw [List.set_append_right _ _ (by simp; omega)]
 have e1 : F.length - k = (F.length - (k + 1)) + 1 := by omega
 rw [e1, List.replicate_succ, List.length_take, Nat.min_eq_left (by omega), Nat.sub_self, List.set_cons_zero, List.take_succ_eq_append_getElem h, List.append_assoc]
 rfl
theorem fill_set2 (F : List Int) (k : Nat) (x : Int) (h : k < F.length) : ((fillL F k).set k x).set k F[k] = fillL F (k + 1) := by rw [List.set_set, fill_set F k h]
theorem fill_get (F : List Int) (k : Nat) (h : k < F.length) : (fillL F k)[k]? = some 0 := by
 unfold fillL zerosI
 rw [List.getElem?_append_right (by simp; omega)]
 simp [List.getElem?_replicate]
 omega
theorem hgt_length (p : Prog) : (hgtL p).length = p.ros.length := by simp [hgtL, liftL_length]
theorem ovr_length (p : Prog) : (ovrL p).length = p.ros.length := by simp [ovrL, liftL_length]
theorem offF_length (p : Prog) (m : Bool) : (offF p m).length = p.ros.length := by unfold offF; split <;> simp [hgt_length, ovr_length]
end Go.Proofs.YtphdalgaemefoaaGreat
