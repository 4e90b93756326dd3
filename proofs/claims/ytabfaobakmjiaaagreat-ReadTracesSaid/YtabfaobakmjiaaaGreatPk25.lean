/- From what a row's opening gives of a slice of integers to the predicate that the contracts speak of. From what a row's opening gives of a fraction (a struct of .. -/
import Derived.Test.YtabfaobakmjiaaaGreatPk24
import Derived.ProofKit
import Derived.OpenShut
import Derived.ShutString
import Derived.ChangeOld
import Derived.Below
import Derived.Lib.SmallJoins
namespace Go.Proofs.YtabfaobakmjiaaaGreat
set_option maxRecDepth 100000
open Go.RowKit
set_option linter.unusedVariables false
def InRow (k : IntKind) (w : World) (a : Option Addr) (len cap : Nat) (zs : List Int) : Prop :=
 (a = none ∧ len = 0 ∧ cap = 0 ∧ zs = []) ∨
 ∃ x, a = some x ∧ len ≤ cap ∧ cap ≤ maxLen ∧ zs.length = cap ∧ (∀ i, i < zs.length → w.cell? (x.add i) = some (.int k (zs.getD i 0))) ∧ ∀ n ∈ zs, (Lit.int k n).wf = true
theorem InRow.arr {k : IntKind} {w : World} {a : Option Addr} {len cap : Nat} {zs : List Int} (h : InRow k w a len cap zs) : Arr (Value.int k) w (.slice a len cap) (zs.take len) ∧ ∀ n ∈ zs.take len, (Lit.int k n).wf = true := by
 rcases h with ⟨rfl, rfl, rfl, rfl⟩ | ⟨x, rfl, hl, hm, hz, hc, hw⟩
 ·exact ⟨Arr.nil _ _, by simp⟩
 ·have hlen : (zs.take len).length = len := by simp; omega
  refine ⟨⟨some x, cap, by rw [hlen], by omega, hm, fun h => by simp at h, fun h0 => ?_⟩, fun n hn => hw n (List.mem_of_mem_take hn)⟩;rw [hlen] at h0;obtain ⟨b, off, spot⟩ := x;have hc0 := hc 0 (by omega);have hspot : spot = none := by simpa [Addr.add] using World.cell?_spot hc0
  subst hspot;refine ⟨b, off, rfl, World.block_lt_of_cell? w _ hc0, fun j hj => ?_⟩;have hj' : j < zs.length := by rw [hlen] at hj; omega
  have h1 := hc j hj';have hadd : (⟨b, off, none⟩ : Addr).add j = ⟨b, off + j, none⟩ := by unfold Addr.add; split <;> simp_all
  rw [hadd] at h1;rw [h1];simp [hj']
open Go.RowKit Go.ChangeShapes Go.WideShapes Go.Deep
theorem qMF {n : Int} (h : (Lit.int .u32 n).wf = true) : 0 ≤ n ∧ n < 4294967296 := by
 have h1 : IntKind.u32.min ≤ n ∧ n ≤ IntKind.u32.max := by simpa [Lit.wf] using h
 have e1 : IntKind.u32.min = 0 := by kernel_rfl
 have e2 : IntKind.u32.max = 4294967295 := by kernel_rfl
 rw [e1, e2] at h1;omega
theorem qLU {w : World} {v : Value} {zs : List Int} (h : Arr (Value.int .u32) w v zs) (hz : ∀ n ∈ zs, (Lit.int .u32 n).wf = true) : ArrL (fun _ => True) (gv .u32) w v (zs.map Int.toNat) := by
 obtain ⟨A, c, hv, h1, h2, hN, h3⟩ := h;refine ⟨A, c, by rw [hv, List.length_map], by rw [List.length_map]; exact h1, h2, hN, fun h0 => ?_⟩;rw [List.length_map] at h0;obtain ⟨b, off, ha, hlt, hc⟩ := h3 h0;refine ⟨b, off, ha, trivial, hlt, fun j hj => ?_⟩;have hj2 : j < zs.length := by simpa using hj
 rw [hc j hj2];have := (qMF (hz _ (List.getElem_mem hj2))).1;unfold gv;rw [List.getElem_map, Int.toNat_of_nonneg this]
section
variable {H : Type} {enc : TypeId × Value → H} {w : World} {n : Nat}
theorem qIa {v : Value} {y : DataW H × List MemPlace} (h : DataW.trod enc Tryz.prog w 0 (fun _ => true) true n 72 [v] = some y) : ∃ gs : List Nat, ArrL (fun _ => True) (gv .u32) w v gs := by
 rcases open_ints Tryz.underlying72 Tryz.underlying196 (by kernel_rfl) h with ⟨hcs, _⟩ | ⟨x, l, c, zs, hcs, _, hl, hm, hz, _, hcell, hwz⟩
 ·obtain rfl : v = .slice none 0 0 := by simpa using hcs
  exact ⟨[], none, 0, rfl, Nat.le_refl _, Nat.zero_le _, fun _ => rfl, fun h => absurd h (Nat.lt_irrefl 0)⟩
 ·obtain rfl : v = .slice (some x) l c := by simpa using hcs
  have := InRow.arr (k := .u32) (.inr ⟨_, rfl, hl, hm, by simpa using hz, hcell, hwz⟩);exact ⟨_, qLU this.1 this.2⟩
theorem qGV {v0 v1 : Value} {y : DataW H × List MemPlace} (h : DataW.trod enc Tryz.prog w 0 (fun _ => true) true n 74 [v0, v1] = some y) : ∃ (s : Bool) (gs : List Nat), v0 = .bool s ∧ ArrL (fun _ => True) (gv .u32) w v1 gs := by
 obtain ⟨xs, m, -, -, -, hlen, hg⟩ := DataW.trod_struct Tryz.underlying74 h;obtain ⟨y0, hy0⟩ : ∃ y, xs[0]? = some y := ⟨_, List.getElem?_eq_getElem (by rw [hlen]; decide)⟩;obtain ⟨y1, hy1⟩ : ∃ y, xs[1]? = some y := ⟨_, List.getElem?_eq_getElem (by rw [hlen]; decide)⟩;have g0 := (hg 0 _ rfl).trans hy0;have g1 := (hg 1 _ rfl).trans hy1;obtain ⟨s, e, -⟩ := DataW.trod_bool (cs := [v0]) Tryz.underlying4 g0;obtain ⟨gs, ha⟩ := qIa (v := v1) g1;exact ⟨s, gs, by simpa using e, ha⟩
end
end Go.Proofs.YtabfaobakmjiaaaGreat
namespace Go.Proofs.YtabfaobakmjiaaaGreat
set_option maxRecDepth 100000
open Go.RowKit Go.ChangeShapes Go.WideShapes Go.Deep
set_option linter.unusedVariables false
section
variable {H : Type} {enc : TypeId × Value → H} {w : World} {n : Nat}
theorem qGW {v0 v1 v2 v3 : Value} {y : DataW H × List MemPlace} (h : DataW.trod enc Tryz.prog w 0 (fun _ => true) true n 76 [v0, v1, v2, v3] = some y) : ∃ a : FracA, IsFracA (fun _ => True) w (.agg #[v0, v1, v2, v3]) a := by
 obtain ⟨xs, m, -, -, -, hlen, hg⟩ := DataW.trod_struct Tryz.underlying76 h;obtain ⟨y0, hy0⟩ : ∃ y, xs[0]? = some y := ⟨_, List.getElem?_eq_getElem (by rw [hlen]; decide)⟩;obtain ⟨y1, hy1⟩ : ∃ y, xs[1]? = some y := ⟨_, List.getElem?_eq_getElem (by rw [hlen]; decide)⟩;have g0 := (hg 0 _ rfl).trans hy0;have g1 := (hg 1 _ rfl).trans hy1;obtain ⟨s, gn, rfl, ha⟩ := qGV (v0 := v0) (v1 := v1) g0;obtain ⟨s', gd, rfl, hb⟩ := qGV (v0 := v2) (v1 := v3) g1;obtain ⟨A, c, e1, -⟩ := id ha;obtain ⟨B, c', e3, -⟩ := id hb;subst e1 e3;exact ⟨⟨s, gn, s', gd⟩, A, c, B, c', rfl, ha, hb⟩
end
end Go.Proofs.YtabfaobakmjiaaaGreat
namespace Go.Proofs.YtabfaobakmjiaaaGreat
set_option maxRecDepth 100000
set_option maxHeartbeats 1000000
open Go.RowKit
set_option linter.unusedVariables false
theorem qD4 (w : World) (a : Obj) : (w.alloc a).heap[w.heap.size]? = some a := by unfold World.alloc; exact Array.getElem?_push_size
set_option linter.unusedSimpArgs false
theorem qKi {w : World} {base : Nat} {e : TypeId} {size : Nat} {v : Value} {n : Nat} {xs : List Value} (h : w.ownsRow base e size v n xs) {B k : Nat} (hB : B < base) (u : Value) : (w.setCell ⟨B, k, none⟩ u).ownsRow base e size v n xs := by
 refine ⟨h.1, ?_⟩
 rcases h.2 with h' | ⟨g, cap, cur, hv', hbg, hh, r⟩
 ·exact Or.inl h'
 ·exact Or.inr ⟨g, cap, cur, hv', hbg, (Below.heap_setCell _ _ _ _ (by show g ≠ B; omega)).trans hh, r⟩
end Go.Proofs.YtabfaobakmjiaaaGreat
