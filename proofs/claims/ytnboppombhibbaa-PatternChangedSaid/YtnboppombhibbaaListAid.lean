/- Plain lists: a list whose first elements have been turned. make and copy on rows of numbers. make, look-up and store on rows of one-cell elements of any kind. -/
import Derived.Test.YtnboppombhibbaaRef4
import Derived.OwnWalk
import Derived.Laws.CopyOwn
namespace Go.Proofs.Ytnboppombhibbaa
open Go.RowKit
set_option linter.unusedVariables false
set_option linter.unusedSimpArgs false
def part (f : Int → Int) (L : List Int) (k : Nat) : List Int := (L.take k).map f ++ L.drop k
theorem part_zero (f : Int → Int) (L : List Int) : part f L 0 = L := by simp [part]
theorem part_all (f : Int → Int) (L : List Int) : part f L L.length = L.map f := by simp [part]
theorem part_length (f : Int → Int) (L : List Int) (k : Nat) : (part f L k).length = L.length := by simp [part]; omega
theorem part_get (f : Int → Int) (L : List Int) (k : Nat) (h : k < L.length) : (part f L k)[k]? = some L[k] := by
  unfold part
  rw [List.getElem?_append_right (by simp; omega)]
  simp [show k - min k L.length = 0 by omega, h]
theorem part_set (f : Int → Int) (L : List Int) (k : Nat) (h : k < L.length) : (part f L k).set k (f L[k]) = part f L (k + 1) := by
  apply List.ext_getElem?
  intro i
  unfold part
  rw [List.getElem?_set]
  by_cases hik : k = i
  · subst hik
    rw [if_pos rfl, if_pos (by simp; omega), List.getElem?_append_left (by simp; omega)]
    simp [List.getElem?_take, h]
  · rw [if_neg hik]
    by_cases hlt : i < k
    · rw [List.getElem?_append_left (by simp; omega), List.getElem?_append_left (by simp; omega)]
      simp [List.getElem?_take, hlt, show i < k + 1 by omega]
    · rw [List.getElem?_append_right (by simp; omega), List.getElem?_append_right (by simp; omega)]
      simp only [List.length_map, List.length_take, List.getElem?_drop]
      congr 1; omega
/-- What one knows of an owned row that is not empty. -/
theorem own_form {w : World} {base : Nat} {e : TypeId} {v : Value} {n : Nat} {xs : List Value} (h : w.ownsRow base e 1 v n xs) (hn : 0 < n) :
    ∃ g c, v = .slice (some ⟨g, 0, none⟩) n c ∧ base ≤ g ∧ g < w.heap.size ∧ n ≤ c ∧ c ≤ maxLen := by
  rcases h.2 with ⟨rfl, h0⟩ | ⟨g, cap, cur, rfl, hbg, hg, hnc, hcm, hsz, htake⟩
  · omega
  · exact ⟨g, cap, rfl, hbg, (Array.getElem?_eq_some_iff.1 hg).1, hnc, hcm⟩
theorem own_drewN {w : World} {base : Nat} {e : TypeId} {size : Nat} {v : Value} {n : Nat} {xs : List Value} (h : w.ownsRow base e size v n xs) (k : Nat) : (w.drewN k).ownsRow base e size v n xs := h
/-- The cell k of an owned row of numbers. -/
theorem own_cell {w : World} {base : Nat} {e : TypeId} {g c n : Nat} {L : List Int} (h : w.ownsRow base e 1 (.slice (some ⟨g, 0, none⟩) n c) n (L.map vint)) (hn : L.length = n) {k : Nat} {x : Int} (hk : L[k]? = some x) : w.cell? ⟨g, k, none⟩ = some (.int .i64 x) := by
  have hlt : k < L.length := (List.getElem?_eq_some_iff.1 hk).1
  rw [h.cellAt k (by omega)]
  simp [hk]
/-- A store into an owned row of numbers. -/
theorem own_put {w : World} {base : Nat} {e : TypeId} {g c n : Nat} {L : List Int} (h : w.ownsRow base e 1 (.slice (some ⟨g, 0, none⟩) n c) n (L.map vint)) (k : Nat) (y : Int) :
    (w.setCell ⟨g, k, none⟩ (.int .i64 y)).ownsRow base e 1 (.slice (some ⟨g, 0, none⟩) n c) n ((L.set k y).map vint) := by
  have h1 := (h.stored k (.int .i64 y)).1
  rw [List.map_set]; exact h1
theorem set_apart {B g : Nat} (hne : B ≠ g) (W : World) (k o : Nat) (u : Value) : (W.setCell ⟨g, k, none⟩ u).cell? ⟨B, o, none⟩ = W.cell? ⟨B, o, none⟩ := World.cell?_of_block (Below.heap_setCell _ _ _ _ hne)
theorem own_apart {w : World} {base : Nat} {e : TypeId} {size : Nat} {v : Value} {n : Nat} {xs : List Value} (h : w.ownsRow base e size v n xs) {B k : Nat} (hB : B < base) (u : Value) : (w.setCell ⟨B, k, none⟩ u).ownsRow base e size v n xs := by
  refine ⟨h.1, ?_⟩
  rcases h.2 with h' | ⟨g, cap, cur, hv', hbg, hh, r⟩
  · exact Or.inl h'
  · exact Or.inr ⟨g, cap, cur, hv', hbg, (Below.heap_setCell _ _ _ _ (by show g ≠ B; omega)).trans hh, r⟩
/-- An owned row behind an append to another row, which was made later. -/
theorem own_past {w w2 : World} {base e size n row : Nat} {v : Value} {xs : List Value} (h : w.ownsRow base e size v n xs) (hg : w.grownBy w2 (some row)) (hr : w.heap.size ≤ row ∨ v.ownBlock ≠ some row) : w2.ownsRow base e size v n xs :=
  h.kept hg (by
    by_cases hn : v.ownBlock = none
    · exact .inl hn
    · refine .inr fun he => ?_
      rcases hr with hr | hr
      · have := (h.lt _ he).2; omega
      · exact hr he)
theorem own_formS {w : World} {base : Nat} {e : TypeId} {v : Value} {n : Nat} {xs : List Value} (h : w.ownsRow base e 1 v n xs) (hn : v.ownBlock ≠ none) : ∃ g c, v = .slice (some ⟨g, 0, none⟩) n c ∧ base ≤ g ∧ g < w.heap.size ∧ n ≤ c ∧ c ≤ maxLen := by
  rcases h.2 with ⟨rfl, h0⟩ | ⟨g, cap, cur, rfl, hbg, hg, hnc, hcm, hsz, htake⟩
  · exact absurd rfl hn
  · exact ⟨g, cap, rfl, hbg, (Array.getElem?_eq_some_iff.1 hg).1, hnc, hcm⟩
/-- A box apart from a store. -/
theorem Box.set {w : World} {B : Nat} {a : Obj} {w1 : World} (h : Box w B a w1) {g k : Nat} (hg : w.heap.size ≤ g) (hB : B ≠ g) (u : Value) : Box w B a (w1.setCell ⟨g, k, none⟩ u) :=
  ⟨h.below.setCell (p := ⟨g, k, none⟩) hg u, (Below.heap_setCell _ _ _ _ hB).trans h.block⟩
end Go.Proofs.Ytnboppombhibbaa
namespace Go.Proofs.Ytnboppombhibbaa
open Go.RowKit
set_option linter.unusedVariables false
set_option linter.unusedSimpArgs false
/-- n zeros. -/
def zerosI (n : Nat) : List Int := List.replicate n 0
theorem zerosI_length (n : Nat) : (zerosI n).length = n := by simp [zerosI]
theorem wpList_makeI {P : Program} (w : World) {ops : Array Oper} {rest : List Oper} {o : Oper} {a : Act} {Q : Exit → Act → World → Prop}
    (hg : o.guard = none) (l c : Operand) (t : TypeId) (hop : o.op = Op.makeSlice t l c) (base : Nat) (e : TypeId) (hE : Elem1 P t e (.int .i64 0) 8)
    (n : Nat) (hl : a.eval l = .int .i64 (n : Int)) (hc : a.eval c = .int .i64 (n : Int)) (hn : n ≤ 1000000000) (b4 : base ≤ w.heap.size)
    (hK : ∀ w', w'.ownsRow base e 1 (.slice (some ⟨w.heap.size, 0, none⟩) n n) n ((zerosI n).map vint) → Below w.heap.size w w' → w.heap.size < w'.heap.size → wpList P ops Q rest (a.put o.dst (.slice (some ⟨w.heap.size, 0, none⟩) n n)) w') :
    wpList P ops Q (o :: rest) a w := by
  obtain ⟨ht, hi, hzs⟩ := hE
  obtain ⟨i, hi0, hz, hsz, hby⟩ := info_parts hi
  refine wpList_make_full w hg l c t hop base e i (.int .i64 0) 1 ht hi0 hz hsz .i64 .i64 _ _ n hl hc rfl rfl (by rw [hby]; omega) (by unfold maxLen; omega) b4 ?_
  intro w' h1 h2
  refine hK w' ?_ ((Below.refl _ _).grown h2 (Nat.le_refl _) (by simp)) ((h1.lt w.heap.size rfl).2)
  rcases h1.2 with ⟨h, _⟩ | ⟨g, cap, cur, hv, hb, hh, hnc, hcm, hs, htake⟩
  · simp at h
  · refine ⟨by simp [zerosI], .inr ⟨g, cap, cur, hv, hb, hh, hnc, hcm, hs, ?_⟩⟩
    rw [htake]
    apply List.ext_getElem?
    intro k
    simp [zerosI, madeCells, Value.cells, List.getElem?_replicate]
    by_cases hk : k < n
    · simp [hk, Nat.mod_one]
    · simp [hk]
theorem wpList_copyI {P : Program} {w : World} {ops : Array Oper} {rest : List Oper} {o : Oper} {a : Act} {Q : Exit → Act → World → Prop} (hgd : o.guard = none) (d s : Operand) (t : TypeId)
    (ho : o.op = .call { callee := .builtin .copy, args := #[d, s], argTypes := #[t, t] }) (base : Nat) (e : TypeId) (hE : Elem1 P t e (.int .i64 0) 8)
    (dv sv : Value) (n : Nat) (L ys : List Int) (hd : a.eval d = dv) (hs : a.eval s = sv) (hown : w.ownsRow base e 1 dv n (L.map vint)) (hsrc : Ints w sv ys) (hlen : ys.length = n) (hb : base ≤ w.heap.size)
    (h : ∀ w', w'.ownsRow base e 1 dv n (ys.map vint) → Below base w w' → wpList P ops Q rest (a.put o.dst (goInt n)) w') :
    wpList P ops Q (o :: rest) a w := by
  obtain ⟨ht, hi, hzs⟩ := hE
  obtain ⟨i, hi0, hz, hsz, hby⟩ := info_parts hi
  obtain ⟨A, c, rfl, h1, h2, hN, h3⟩ := hsrc
  have hszm : (P.info? e).map (·.size) = some 1 := by rw [hi0]; simp [hsz]
  subst hlen
  by_cases h0 : 0 < ys.length
  · obtain ⟨b, off, rfl, hblt, hcell⟩ := h3 h0
    rcases hown.2 with ⟨rfl, h0'⟩ | ⟨g, cap, cur, rfl, hbg, hh, hnc, hcm, hs', htake⟩
    · omega
    · refine wpList_copy_splice hgd d s t t ho e ht hszm (some ⟨g, 0, none⟩) (some ⟨b, off, none⟩) ys.length cap ys.length c hd hs g 0 cur.toList e (by simpa using hh) (ys.map vint) (by simp)
        (fun _ => ⟨rfl, _, rfl, fun j v hv => ?_⟩) (by simp; omega) (by simp [Value.oneCell']) base w (Below.refl _ _) hbg ?_
      · have hj : j < ys.length := by have := (List.getElem?_eq_some_iff.1 hv).1; simpa using this
        have ha : (⟨b, off, none⟩ : Addr).add j = ⟨b, off + j, none⟩ := by unfold Addr.add; split <;> simp_all
        rw [ha, hcell j hj]
        simpa [hj] using hv
      · intro w' hH hB
        have hH' := hH.out
        rw [List.length_map]
        refine h w' ⟨by simp, .inr ⟨g, cap, _, rfl, hbg, hH', hnc, hcm, ?_, ?_⟩⟩ hB
        · simp [splice]; omega
        · simp [splice]
  · have hy : ys = [] := List.eq_nil_of_length_eq_zero (by omega)
    subst hy
    have hdv : ∃ A n c, dv = .slice A n c ∧ n = 0 := by
      rcases hown.2 with ⟨rfl, h0'⟩ | ⟨g, cap, cur, rfl, _⟩
      · exact ⟨_, _, _, rfl, rfl⟩
      · exact ⟨_, _, _, rfl, rfl⟩
    obtain ⟨A', n', c', rfl, rfl⟩ := hdv
    refine wpList_copy_nothing hgd d s t t ho e ht hszm A' A 0 c' _ c hd hs (by simp) ?_
    have hL : L = [] := List.eq_nil_of_length_eq_zero (by simpa using hown.1)
    subst hL
    exact h w hown (Below.refl _ _)
end Go.Proofs.Ytnboppombhibbaa
namespace Go.Proofs.Ytnboppombhibbaa
open Go.RowKit
set_option linter.unusedVariables false
set_option linter.unusedSimpArgs false
theorem wpList_makeG {α : Type} {f : α → Value} {P : Program} (w : World) {ops : Array Oper} {rest : List Oper} {o : Oper} {a : Act} {Q : Exit → Act → World → Prop}
    (hg : o.guard = none) (l c : Operand) (t : TypeId) (hop : o.op = Op.makeSlice t l c) (base : Nat) (e : TypeId) (z0 : α) (bytes : Nat) (hE : Elem1 P t e (f z0) bytes) (hz1 : (f z0).cells = #[f z0]) (hby : bytes ≤ 100000)
    (n : Nat) (hl : a.eval l = .int .i64 (n : Int)) (hc : a.eval c = .int .i64 (n : Int)) (hn : n ≤ 1000000000) (b4 : base ≤ w.heap.size)
    (L : List α) (hL : L = List.replicate n z0)
    (hK : ∀ w', w'.ownsRow base e 1 (.slice (some ⟨w.heap.size, 0, none⟩) n n) n (L.map f) → Below w.heap.size w w' → w.heap.size < w'.heap.size → wpList P ops Q rest (a.put o.dst (.slice (some ⟨w.heap.size, 0, none⟩) n n)) w') :
    wpList P ops Q (o :: rest) a w := by
  obtain ⟨ht, hi, hzs⟩ := hE
  obtain ⟨i, hi0, hz, hsz, hby'⟩ := info_parts hi
  subst hL
  refine wpList_make_full w hg l c t hop base e i (f z0) 1 ht hi0 hz hsz .i64 .i64 _ _ n hl hc rfl rfl (by rw [hby']; exact Nat.le_trans (Nat.mul_le_mul hby hn) (by decide)) (by unfold maxLen; omega) b4 ?_
  intro w' h1 h2
  refine hK w' ?_ ((Below.refl _ _).grown h2 (Nat.le_refl _) (by simp)) ((h1.lt w.heap.size rfl).2)
  rcases h1.2 with ⟨h, _⟩ | ⟨g, cap, cur, hv, hb, hh, hnc, hcm, hs, htake⟩
  · simp at h
  · refine ⟨by simp, .inr ⟨g, cap, cur, hv, hb, hh, hnc, hcm, hs, ?_⟩⟩
    rw [htake, hz1]
    apply List.ext_getElem?
    intro k
    simp [madeCells, List.getElem?_replicate]
    by_cases hk : k < n
    · simp [hk, Nat.mod_one]
    · simp [hk]
theorem own_cellG {α : Type} {f : α → Value} {w : World} {base : Nat} {e : TypeId} {g c n : Nat} {L : List α} (h : w.ownsRow base e 1 (.slice (some ⟨g, 0, none⟩) n c) n (L.map f)) (hn : L.length = n) {k : Nat} {x : α} (hk : L[k]? = some x) : w.cell? ⟨g, k, none⟩ = some (f x) := by
  have hlt : k < L.length := (List.getElem?_eq_some_iff.1 hk).1
  rw [h.cellAt k (by omega)]
  simp [hk]
theorem own_putG {α : Type} {f : α → Value} {w : World} {base : Nat} {e : TypeId} {g c n : Nat} {L : List α} (h : w.ownsRow base e 1 (.slice (some ⟨g, 0, none⟩) n c) n (L.map f)) (k : Nat) (y : α) :
    (w.setCell ⟨g, k, none⟩ (f y)).ownsRow base e 1 (.slice (some ⟨g, 0, none⟩) n c) n ((L.set k y).map f) := by
  have h1 := (h.stored k (f y)).1
  rw [List.map_set]; exact h1
end Go.Proofs.Ytnboppombhibbaa
