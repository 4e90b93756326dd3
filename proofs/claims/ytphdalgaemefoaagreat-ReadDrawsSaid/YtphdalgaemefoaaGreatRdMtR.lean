/- A head at work, plain: the rows of bases as they are made, reading by reading. -/
import Derived.Test.YtphdalgaemefoaaGreatRdMapR
import Derived.Test.YtphdalgaemefoaaGreatRdStartR
namespace Go.Proofs.YtphdalgaemefoaaGreat
set_option maxRecDepth 100000
open Go.RowKit
set_option linter.unusedVariables false
set_option linter.unusedSimpArgs false
def hasC (rds : List Rd) (c : Int) : Bool := rds.any fun r => decide (r.cut = c)
def rowS (rds : List Rd) (lift : List Int) (throw : Int) (n : Nat) (c : Int) : List Spn := (List.range n).map fun ph => baseS rds lift throw c ph
def rowK (rds : List Rd) (lift : List Int) (throw : Int) (n : Nat) (c : Int) (r : Rd) (k : Nat) : List Spn := (List.range n).map fun ph => if ph < k then baseS (rds ++ [r]) lift throw c ph else baseS rds lift throw c ph
theorem rowS_length (rds : List Rd) (lift : List Int) (throw : Int) (n : Nat) (c : Int) : (rowS rds lift throw n c).length = n := by simp [rowS]
theorem rowK_length (rds : List Rd) (lift : List Int) (throw : Int) (n : Nat) (c : Int) (r : Rd) (k : Nat) : (rowK rds lift throw n c r k).length = n := by simp [rowK]
theorem rowK_zero (rds : List Rd) (lift : List Int) (throw : Int) (n : Nat) (c : Int) (r : Rd) : rowK rds lift throw n c r 0 = rowS rds lift throw n c := by
 unfold rowK rowS
 exact List.map_congr_left fun ph _ => by rw [if_neg (Nat.not_lt_zero _)]
theorem rowK_all (rds : List Rd) (lift : List Int) (throw : Int) (n : Nat) (c : Int) (r : Rd) : rowK rds lift throw n c r n = rowS (rds ++ [r]) lift throw n c := by
 unfold rowK rowS
 exact List.map_congr_left fun ph h => by rw [if_pos (List.mem_range.1 h)]
theorem rowK_get {rds : List Rd} {lift : List Int} {throw : Int} {n : Nat} {c : Int} {r : Rd} {k : Nat} (h : k < (rowK rds lift throw n c r k).length) : (rowK rds lift throw n c r k)[k] = baseS rds lift throw c k := by
 simp [rowK]
theorem rowK_set {rds : List Rd} {lift : List Int} {throw : Int} {n : Nat} {c : Int} {r : Rd} {k : Nat} : (rowK rds lift throw n c r k).set k (baseS (rds ++ [r]) lift throw c k) = rowK rds lift throw n c r (k + 1) := by
 apply List.ext_getElem
 ·rw [List.length_set, rowK_length, rowK_length]
 ·intro i h1 h2
  rw [List.getElem_set]
  by_cases e : k = i
  ·subst e; simp [rowK]
  ·rw [if_neg e]
   simp only [rowK, List.getElem_map, List.getElem_range]
   by_cases q : i < k
   ·rw [if_pos q, if_pos (by omega)]
   ·rw [if_neg q, if_neg (by omega)]
theorem baseS_snoc (rds : List Rd) (lift : List Int) (throw c : Int) (ph : Nat) (r : Rd) : baseS (rds ++ [r]) lift throw c ph = if r.cut = c then (max (baseS rds lift throw c ph).1 (r.lo - throw * hAt lift r ph), min (baseS rds lift throw c ph).2 (r.hi - throw * hAt lift r ph)) else baseS rds lift throw c ph := by
 unfold baseS; rw [List.foldl_append]; rfl
theorem baseS_none {lift : List Int} {throw c : Int} {ph : Nat} : ∀ {rds : List Rd}, hasC rds c = false → baseS rds lift throw c ph = (-1099511627776, 1099511627776) := by
 intro rds h
 unfold baseS hasC at *
 induction rds with
 | nil => rfl
 | cons r rds ih =>
  simp only [List.any_cons, Bool.or_eq_false_iff, decide_eq_false_iff_not] at h
  rw [List.foldl_cons, if_neg h.1]
  exact ih h.2
theorem rowS_none {lift : List Int} {throw c : Int} {n : Nat} {rds : List Rd} (h : hasC rds c = false) : rowS rds lift throw n c = List.replicate n (-1099511627776, 1099511627776) := by
 unfold rowS
 rw [List.map_congr_left fun ph _ => baseS_none h]
 apply List.ext_getElem <;> simp
theorem hasC_snoc (rds : List Rd) (r : Rd) (c : Int) : hasC (rds ++ [r]) c = (hasC rds c || decide (r.cut = c)) := by unfold hasC; simp
theorem rowS_other {rds : List Rd} {lift : List Int} {throw c : Int} {n : Nat} {r : Rd} (h : r.cut ≠ c) : rowS (rds ++ [r]) lift throw n c = rowS rds lift throw n c := by
 unfold rowS
 exact List.map_congr_left fun ph _ => by rw [baseS_snoc, if_neg h]
theorem baseS_bound {n : Nat} {lift : List Int} {throw c : Int} {ph : Nat} (hl : rosOk lift = true) (ht : 0 ≤ throw ∧ throw ≤ 16) : ∀ (rds : List Rd), (∀ r ∈ rds, RdOk n r) → ∀ o : Spn, -1099511627776 ≤ o.1 → o.1 ≤ 1000000 → -1000000 ≤ o.2 → o.2 ≤ 1099511627776 →
  -1099511627776 ≤ (rds.foldl (fun o r => if r.cut = c then (max o.1 (r.lo - throw * hAt lift r ph), min o.2 (r.hi - throw * hAt lift r ph)) else o) o).1 ∧ (rds.foldl (fun o r => if r.cut = c then (max o.1 (r.lo - throw * hAt lift r ph), min o.2 (r.hi - throw * hAt lift r ph)) else o) o).1 ≤ 1000000 ∧
  -1000000 ≤ (rds.foldl (fun o r => if r.cut = c then (max o.1 (r.lo - throw * hAt lift r ph), min o.2 (r.hi - throw * hAt lift r ph)) else o) o).2 ∧ (rds.foldl (fun o r => if r.cut = c then (max o.1 (r.lo - throw * hAt lift r ph), min o.2 (r.hi - throw * hAt lift r ph)) else o) o).2 ≤ 1099511627776
 | [], _, o, h0, h1, h2, h3 => ⟨h0, h1, h2, h3⟩
 | r :: rds, hr, o, h0, h1, h2, h3 => by
  have hro := hr r List.mem_cons_self
  have hh := lift_in hl r ph
  have m2 := mul_in ht.1 ht.2 (b := hAt lift r ph) (B := 10000) (by omega) (by omega) (by decide)
  have m3 := Int.mul_nonneg ht.1 hh.1
  unfold RdOk at hro
  simp only [List.foldl_cons]
  apply baseS_bound hl ht rds (fun q hq => hr q (List.mem_cons_of_mem _ hq))
  all_goals
   split
   ·simp only; omega
   ·assumption
theorem baseS_in2 {n : Nat} {rds : List Rd} {lift : List Int} {throw c : Int} {ph : Nat} (hl : rosOk lift = true) (ht : 0 ≤ throw ∧ throw ≤ 16) (hr : ∀ r ∈ rds, RdOk n r) : -1099511627776 ≤ (baseS rds lift throw c ph).1 ∧ (baseS rds lift throw c ph).1 ≤ 1000000 ∧ -1000000 ≤ (baseS rds lift throw c ph).2 ∧ (baseS rds lift throw c ph).2 ≤ 1099511627776 :=
 baseS_bound hl ht rds hr (-1099511627776, 1099511627776) (by decide) (by decide) (by decide) (by decide)
theorem Bases.congr {w : World} {B n : Nat} {D : DataW Unit} {bl : Int → Nat} {Z len : Nat} {cs cs' : Int → Bool} {row row' : Int → List Spn} (h : Bases w B n D bl Z len cs row) (h1 : ∀ c, cs c = cs' c) (h2 : ∀ c, cs c = true → row c = row' c) : Bases w B n D bl Z len cs' row' := by
 obtain rfl : cs = cs' := funext h1
 exact ⟨h.own, h.has, h.wf, h.get, fun c hc => by rw [← h2 c hc]; exact h.blk c hc, fun c hc => by rw [← h2 c hc]; exact h.len c hc, h.apart⟩
theorem ownsMap_start {w : World} {B : Nat} (h : w.heap[B]? = some (.map #[] 0)) : w.ownsMap Tryz.prog 3 hdR B 0 (.map []) := by
 obtain ⟨es, cl, h1, h2⟩ := World.ownsMap_made w Tryz.prog 3 hdR
 have e : (w.alloc (.map #[] 0)).heap[w.heap.size]? = some (.map #[] 0) := alc_at _ _
 rw [e] at h1
 injection h1 with h1
 injection h1 with h3 h4
 subst h3 h4
 exact ⟨_, _, h, h2⟩
theorem Bases.start {w : World} {B Z len : Nat} {row : Int → List Spn} (h : w.heap[B]? = some (.map #[] 0)) : Bases w B 0 (.map []) (fun _ => 0) Z len (fun _ => false) row :=
 ⟨ownsMap_start h, fun _ _ => rfl, fun _ hc => (by cases hc), fun _ hc => (by cases hc), fun _ hc => (by cases hc), fun _ hc => (by cases hc), fun _ _ hc => (by cases hc)⟩
theorem span_ne {w : World} {b X : Nat} {cs cs' : Array Value} {t : TypeId} (h : w.heap[b]? = some (.cells cs 101)) (h' : w.heap[X]? = some (.cells cs' t)) (ht : 101 ≠ t) : b ≠ X := by
 rintro rfl
 rw [h] at h'
 injection h' with h'
 injection h' with _ h2
 exact ht h2
theorem Bases.other {w W : World} {B n : Nat} {D : DataW Unit} {bl : Int → Nat} {Z len : Nat} {cs : Int → Bool} {row : Int → List Spn} (h : Bases w B n D bl Z len cs row) {X : Nat} {vs : Array Value} {t : TypeId} (hX : w.heap[X]? = some (.cells vs t)) (ht : 101 ≠ t) (hk : ∀ k, k ≠ X → W.heap[k]? = w.heap[k]?) : Bases W B n D bl Z len cs row := by
 refine ⟨?_, h.has, h.wf, h.get, fun c hc => ⟨(h.blk c hc).1, (hk _ (span_ne (h.blk c hc).2 hX ht)).trans (h.blk c hc).2⟩, h.len, h.apart⟩
 obtain ⟨es, cl, h1, h2⟩ := h.own
 exact ⟨es, cl, (hk B (map_ne_cells h.own hX).symm).trans h1, h2⟩
theorem set2o (W : World) (X i j : Nat) (u v : Value) (k : Nat) (hk : k ≠ X) : ((W.setCell ⟨X, i, none⟩ u).setCell ⟨X, j, none⟩ v).heap[k]? = W.heap[k]? := (Below.heap_setCell _ ⟨X, j, none⟩ _ k hk).trans (Below.heap_setCell _ ⟨X, i, none⟩ _ k hk)
theorem set2b {n : Nat} {w W : World} {X i j : Nat} (h : Below n w W) (hX : n ≤ X) (u v : Value) : Below n w ((W.setCell ⟨X, i, none⟩ u).setCell ⟨X, j, none⟩ v) := (Below.setCell h (p := ⟨X, i, none⟩) hX _).setCell (p := ⟨X, j, none⟩) hX _
theorem pset3 {W : World} {X : Nat} {a b c : Value} {t : TypeId} (h : W.heap[X]? = some (Obj.cells #[a, b, c] t)) (u0 u1 u2 : Value) : (((W.setCell ⟨X, 0, none⟩ u0).setCell ⟨X, 1, none⟩ u1).setCell ⟨X, 2, none⟩ u2).heap[X]? = some (.cells #[u0, u1, u2] t) := by
 simp only [World.setCell, Array.getElem?_modify, h]
 simp
theorem pset3b {n : Nat} {w W : World} {X : Nat} (h : Below n w W) (hX : n ≤ X) (u0 u1 u2 : Value) : Below n w (((W.setCell ⟨X, 0, none⟩ u0).setCell ⟨X, 1, none⟩ u1).setCell ⟨X, 2, none⟩ u2) :=
 (((Below.setCell h (p := ⟨X, 0, none⟩) hX _).setCell (p := ⟨X, 1, none⟩) hX _).setCell (p := ⟨X, 2, none⟩) hX _)
theorem pset3o (W : World) (X : Nat) (u0 u1 u2 : Value) (k : Nat) (hk : k ≠ X) : (((W.setCell ⟨X, 0, none⟩ u0).setCell ⟨X, 1, none⟩ u1).setCell ⟨X, 2, none⟩ u2).heap[k]? = W.heap[k]? := (Below.heap_setCell _ ⟨X, 2, none⟩ _ k hk).trans ((Below.heap_setCell _ ⟨X, 1, none⟩ _ k hk).trans (Below.heap_setCell _ ⟨X, 0, none⟩ _ k hk))
end Go.Proofs.YtphdalgaemefoaaGreat
