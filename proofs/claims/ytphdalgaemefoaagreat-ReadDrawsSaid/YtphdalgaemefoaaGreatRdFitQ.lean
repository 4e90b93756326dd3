/- The program's Fits, plain and in memory: rows of phases under way; the last cut over a map. -/
import Derived.Test.YtphdalgaemefoaaGreatRdMtR
import Derived.Test.YtphdalgaemefoaaGreatRdFitsW
namespace Go.Proofs.YtphdalgaemefoaaGreat
set_option maxRecDepth 100000
open Go.RowKit
set_option linter.unusedVariables false
set_option linter.unusedSimpArgs false
theorem hasC_iff {rds : List Rd} {c : Int} : hasC rds c = true ↔ ∃ r ∈ rds, r.cut = c := by unfold hasC; simp
def fitP (rds : List Rd) (lift : List Int) (throw adv start c : Int) (ph : Nat) : Bool := if hasC rds c then within (start + c * adv) (baseS rds lift throw c ph).1 (baseS rds lift throw c ph).2 else true
theorem fitP_eq {rds : List Rd} {lift : List Int} {throw adv start c : Int} {ph : Nat} (hs : 0 ≤ start ∧ start ≤ 10000) (ha : -1000 ≤ adv ∧ adv ≤ 1000) (hc : 0 ≤ c ∧ c ≤ 11) : fitP rds lift throw adv start c ph = inB start (startS rds lift throw adv c ph) := by
 have hb : -11000 ≤ c * adv ∧ c * adv ≤ 11000 := by
  have a := Int.mul_le_mul_of_nonneg_left ha.1 hc.1
  have b := Int.mul_le_mul_of_nonneg_left ha.2 hc.1
  omega
 rw [Bool.eq_iff_iff, inB_iff, startS_in]
 unfold fitP
 by_cases h : hasC rds c = true
 ·rw [if_pos h, within_iff, ← baseS_in (adv := adv) (by omega)]
  constructor
  ·intro q; exact ⟨hs, by omega, by omega⟩
  ·intro q; exact ⟨by omega, by omega⟩
 ·rw [if_neg h]
  refine ⟨fun _ => ⟨hs, fun r hr e => absurd (hasC_iff.2 ⟨r, hr, e⟩) h⟩, fun _ => rfl⟩
theorem lastC_of {rds : List Rd} (hr : ∀ r ∈ rds, 0 ≤ r.cut ∧ r.cut ≤ 11) {m : Int} (h0 : 0 ≤ m) (h1 : ∀ c, hasC rds c = true → c ≤ m) (h2 : m = 0 ∨ hasC rds m = true) : m = lastC rds := by
 obtain ⟨a, -, b, c⟩ := lastC_le hr
 have q1 : m ≤ lastC rds := by
  rcases h2 with rfl | h2
  ·exact a
  ·obtain ⟨r, hr, rfl⟩ := hasC_iff.1 h2
   exact b r hr
 have q2 : lastC rds ≤ m := by
  rcases c with e | ⟨r, hr, e⟩
  ·omega
  ·exact h1 _ (hasC_iff.2 ⟨r, hr, e⟩)
 omega
theorem Ints.kept {w W : World} {g : Nat} {vs : List Value} {t : TypeId} {v : Value} {xs : List Int} (h : Ints w v xs) (hg : w.heap[g]? = some (.cells vs.toArray t)) (hsl : ∀ u ∈ vs, IsSl u) (hs : w.heap.size ≤ W.heap.size) (hk : ∀ b, b < w.heap.size → b ≠ g → W.heap[b]? = w.heap[b]?) : Ints W v xs := by
 obtain ⟨A, c, hv, h1, h2, hN, h3⟩ := h
 refine ⟨A, c, hv, h1, h2, hN, fun h0 => ?_⟩
 obtain ⟨b, off, ha, hlt, hc⟩ := h3 h0
 have hne : b ≠ g := by
  rintro rfl
  have h4 := hc 0 h0
  simp only [World.cell?, hg] at h4
  have h6 : vs[off + 0]? = some (Value.int .i64 xs[0]) := by simpa using h4
  obtain ⟨_, _, _, hz⟩ := hsl _ (List.mem_of_getElem? h6)
  cases hz
 exact ⟨b, off, ha, Nat.lt_of_lt_of_le hlt hs, fun j hj => (World.cell?_of_block (hk b hlt hne)).trans (hc j hj)⟩
structure RowsTo (w : World) (g N c : Nat) (f : Nat → List Int) (vs : List Value) : Prop where
 len : vs.length = N
 blk : w.heap[g]? = some (.cells vs.toArray 36)
 done : ∀ i (h : i < vs.length), i < c → Ints w vs[i] (f i)
 nil : ∀ i (h : i < vs.length), c ≤ i → vs[i] = .slice none 0 0
 sl : ∀ u ∈ vs, IsSl u
theorem RowsTo.grid {w : World} {g N : Nat} {f : Nat → List Int} {vs : List Value} (h : RowsTo w g N N f vs) (hN : N ≤ 1000000) : GridL w (.slice (some ⟨g, 0, none⟩) N N) ((List.range N).map f) := by
 refine ⟨some ⟨g, 0, none⟩, N, by simp, by simp, by unfold maxLen; omega, fun e => (by cases e), fun _ => ⟨g, 0, rfl, gsl h.blk, fun j hj => ?_⟩⟩
 have hj2 : j < N := by simpa using hj
 have hj3 : j < vs.length := by rw [h.len]; exact hj2
 refine ⟨vs[j], ?_, ?_⟩
 ·simp only [World.cell?, h.blk]; simp [hj3]
 ·have := h.done j hj3 hj2
  simpa using this
theorem RowsTo.start {w : World} {g N : Nat} {f : Nat → List Int} (h : w.heap[g]? = some (.cells (List.replicate N (Value.slice none 0 0)).toArray 36)) : RowsTo w g N 0 f (List.replicate N (.slice none 0 0)) :=
 ⟨by simp, h, fun i _ h => absurd h (Nat.not_lt_zero i), fun i h1 _ => by simp, fun u hu => by rw [List.eq_of_mem_replicate hu]; exact ⟨_, _, _, rfl⟩⟩
theorem madeNil (n : Nat) : madeCells #[Value.slice none 0 0] n = (List.replicate n (Value.slice none 0 0)).toArray := by
 apply Array.ext'
 apply List.ext_getElem
 ·simp [madeCells]
 ·intro i h1 h2
  simp [madeCells, Nat.mod_one]
structure RowOn (w : World) (W : World) (g c : Nat) (vs : List Value) (vl : Value) (l : List Int) : Prop where
 blk : W.heap[g]? = some (.cells (vs.set c vl).toArray 36)
 own : W.ownsRow w.heap.size 3 1 vl l.length (l.map vint)
 size : w.heap.size ≤ W.heap.size
 kept : ∀ b, b < w.heap.size → b ≠ g → W.heap[b]? = w.heap[b]?
 below : Below g w W
theorem RowsTo.cell {w : World} {g N c : Nat} {f : Nat → List Int} {vs : List Value} (h : RowsTo w g N c f vs) (hc : c < N) : w.cell? ⟨g, c, none⟩ = some (.slice none 0 0) := by
 have hl := h.len
 have h1 := h.nil c (by omega) (Nat.le_refl _)
 simp only [World.cell?, h.blk]
 simp [show c < vs.length by omega, h1]
theorem RowsTo.on {w : World} {g N c : Nat} {f : Nat → List Int} {vs : List Value} (h : RowsTo w g N c f vs) (hc : c < N) : RowOn w w g c vs (.slice none 0 0) [] := by
 have hl := h.len
 have h1 := h.nil c (by omega) (Nat.le_refl _)
 refine ⟨?_, World.ownsRow_nil _ _ _ _, Nat.le_refl _, fun _ _ _ => rfl, Below.refl _ _⟩
 rw [← h1, List.set_getElem_self]
 exact h.blk
theorem RowOn.cell {w W : World} {g c : Nat} {vs : List Value} {vl : Value} {l : List Int} (h : RowOn w W g c vs vl l) (hc : c < vs.length) : W.cell? ⟨g, c, none⟩ = some vl := by
 simp only [World.cell?, h.blk]
 simp [hc]
theorem RowsTo.next {w W : World} {g N c : Nat} {f : Nat → List Int} {vs : List Value} (h : RowsTo w g N c f vs) (hc : c < N) {vl : Value} {l : List Int} (ho : RowOn w W g c vs vl l) (hf : f c = l) (hsl : IsSl vl) : RowsTo W g N (c + 1) f (vs.set c vl) := by
 have hl := h.len
 refine ⟨by simpa using hl, ho.blk, fun i hi hic => ?_, fun i hi hic => ?_, fun u hu => ?_⟩
 ·by_cases e : c = i
  ·subst e
   rw [List.getElem_set_self, hf]
   exact own_ints ho.own
  ·rw [List.getElem_set_ne e]
   have hi2 : i < vs.length := by simpa using hi
   exact (h.done i hi2 (by omega)).kept h.blk h.sl ho.size ho.kept
 ·rw [List.getElem_set_ne (by omega)]
  exact h.nil i (by simpa using hi) (by omega)
 ·rcases List.mem_or_eq_of_mem_set hu with hu | rfl
  ·exact h.sl u hu
  ·exact hsl
theorem RowOn.push {w W W2 : World} {g c : Nat} {vs : List Value} {vl v2 : Value} {l : List Int} {x : Int} (h : RowOn w W g c vs vl l) (hg : g < w.heap.size) (h1 : W2.ownsRow w.heap.size 3 1 v2 (l ++ [x]).length ((l ++ [x]).map vint)) (h2 : Below w.heap.size W W2) : RowOn w (W2.setCell ⟨g, c, none⟩ v2) g c vs v2 (l ++ [x]) := by
 refine ⟨?_, own_apart h1 hg _, ?_, fun b hb hne => ?_, (h.below.trans (h2.mono (Nat.le_of_lt hg))).setCell (p := ⟨g, c, none⟩) (Nat.le_refl _) _⟩
 ·have := (h2.block g hg).trans h.blk
  simp only [World.setCell, Array.getElem?_modify, this]
  simp
 ·have := h2.size; have := h.size; simp [World.setCell]; omega
 ·exact (Below.heap_setCell _ ⟨g, c, none⟩ _ b hne).trans ((h2.block b hb).trans (h.kept b hb hne))
section
variable {w : World} {ops : Array Oper} {rest : List Oper} {o : Oper} {a : Act} {Q : Exit → Act → World → Prop} {B n : Nat} {D : DataW Unit}
theorem wpList_okHas (hg : o.guard = none) (m x : Operand) (hop : o.op = Op.lookup 95 m x true) (hm : a.eval m = .map (some B)) (hown : w.ownsMap Tryz.prog 3 hdR B n D)
  (c : Int) (hx : a.eval x = .int .i64 c) (hc : (Lit.int .i64 c).wf = true) (b l k : Nat) (hat : ∀ z, D.atKey (.int .i64 c) z = hdD b l k) (hh : Maps.has D (.int .i64 c) = true)
  (hK : wpList Tryz.prog ops Q rest (a.put o.dst (.tuple #[.slice (some ⟨b, 0, none⟩) l k, .bool true])) w) : wpList Tryz.prog ops Q (o :: rest) a w := by
 refine wpList_lookOk hg m x hop hm hown c hx hc fun y hy => ?_
 rw [hat] at hy
 obtain rfl := hdY_inj hy
 rw [hh]
 exact hK
theorem wpList_okNot (hg : o.guard = none) (m x : Operand) (hop : o.op = Op.lookup 95 m x true) (hm : a.eval m = .map (some B)) (hown : w.ownsMap Tryz.prog 3 hdR B n D)
  (c : Int) (hx : a.eval x = .int .i64 c) (hc : (Lit.int .i64 c).wf = true) (hh : Maps.has D (.int .i64 c) = false)
  (hK : wpList Tryz.prog ops Q rest (a.put o.dst (.tuple #[.slice none 0 0, .bool false])) w) : wpList Tryz.prog ops Q (o :: rest) a w := by
 refine wpList_lookOk hg m x hop hm hown c hx hc fun y hy => ?_
 rw [Maps.atKey_of_not_has hh] at hy
 obtain rfl := hdY_nil hy
 rw [hh]
 exact hK
theorem wpList_nextHd {B r : Nat} {left : Lit → Bool} {cnt : Nat} (hg : o.guard = none) (it : Operand) (hop : o.op = Op.next it false) (hit : a.eval it = .pointer (some ⟨r, 0, none⟩)) (h : w.ranges Tryz.prog 3 hdR B r n D left cnt)
  (hDone : cnt = 0 → (∀ kl, left kl = false) → wpList Tryz.prog ops Q rest (a.put o.dst (.tuple #[.bool false])) w)
  (hMore : ∀ (x : Int) (y : Option (Nat × Nat × Nat)) (w' : World) (cnt' : Nat), (Lit.int .i64 x).wf = true → left (.int .i64 x) = true → (∀ zd, D.atKey (.int .i64 x) zd = hdY y) → w'.ranges Tryz.prog 3 hdR B r n D (fun z => left z && !z.sameKey (.int .i64 x)) cnt' → cnt' < cnt →
   w.grownBy w' (some r) → w'.heap.size = w.heap.size → (Instr.entry (.pointer (some ⟨r, 0, none⟩))).run Tryz.prog w' = .ok (.tuple #[.int .i64 x, hdV y]) w' → wpList Tryz.prog ops Q rest (a.put o.dst (.tuple #[.bool true, .int .i64 x, hdV y])) w') :
  wpList Tryz.prog ops Q (o :: rest) a w :=
 wpList_next_ranges w hg it hop 3 keyed9 hdR (Value.int .i64) hdV (fun key kl hkey => by obtain ⟨x, rfl, _⟩ := Maps.keyOf_int_inv Tryz.underlying3 hkey; exact ⟨x, rfl⟩) (fun v y hv => by obtain ⟨c, rfl, _⟩ := hdR_inv hv; exact ⟨c, rfl⟩)
  B r n D left cnt hit h hDone (fun x c kl y w' cnt' hkey hlk hv hat hrg hlt hgr hsz hen => by
   obtain ⟨x', ex, rfl, hwx⟩ := Maps.keyOf_int_inv Tryz.underlying3 hkey
   cases ex
   rw [hdR_mk] at hv
   injection hv with hv
   subst hv
   exact hMore x c w' cnt' hwx hlk hat hrg hlt hgr hsz hen)
end
end Go.Proofs.YtphdalgaemefoaaGreat
