/- A block of the call's own that stays as it is; cells of one-cell blocks; owned rows that read. Plain lists: a list whose first elements have been turned. make and copy on rows of numbers. make, look-up and store on rows of one-cell elements of any kind. Lists of numbers compared, and written over: barleycornref03.SameInts, barleycornlaw04.same and erase. -/
import Derived.Test.YtphdalgaemefoaaGreatBase
import Derived.Test.YtphdalgaemefoaaGreatStd
import Derived.OwnWalk
import Derived.Laws.CopyOwn
import Derived.BigQuiet
import Derived.Deep.QuietTactic
namespace Go.Proofs.YtphdalgaemefoaaGreat
set_option maxRecDepth 100000
set_option maxHeartbeats 1000000
open Go.RowKit
set_option linter.unusedVariables false
theorem cell0 {W : World} {B : Nat} {v : Value} {t : TypeId} (h : W.heap[B]? = some (.cells #[v] t)) : W.cell? ⟨B, 0, none⟩ = some v := cell_of_row W B 0 _ _ _ h
theorem frozen0 {W : World} {B : Nat} {cs : Array Value} {t : TypeId} (h : W.heap[B]? = some (.cells cs t)) (i : Nat) : W.frozen? ⟨B, i, none⟩ = false := by simp [World.frozen?, h]
theorem alc_at (w : World) (a : Obj) : (w.alloc a).heap[w.heap.size]? = some a := by unfold World.alloc; exact Array.getElem?_push_size
structure Box (w : World) (B : Nat) (a : Obj) (w1 : World) : Prop where
 below : Below w.heap.size w w1
 block : w1.heap[B]? = some a
theorem Box.lt {w : World} {B : Nat} {a : Obj} {w1 : World} (h : Box w B a w1) : B < w1.heap.size := (gsl h.block)
theorem Box.size {w : World} {B : Nat} {a : Obj} {w1 : World} (h : Box w B a w1) : w.heap.size ≤ w1.heap.size := h.below.size
theorem Box.start (w : World) (a : Obj) : Box w w.heap.size a (w.alloc a) := ⟨alc1 _ _, alc_at _ _⟩
theorem Box.next {w : World} {B : Nat} {a : Obj} {w1 w2 : World} (h : Box w B a w1) (k : Below w1.heap.size w1 w2) : Box w B a w2 :=
 ⟨h.below.trans (k.mono h.size), (k.block _ h.lt).trans h.block⟩
theorem Box.nextB {w : World} {B : Nat} {a : Obj} {w1 w2 : World} (h : Box w B a w1) {n : Nat} (k : Below n w1 w2) (hB : B < n) (hn : w.heap.size ≤ n) : Box w B a w2 :=
 ⟨h.below.trans (k.mono hn), (k.block _ hB).trans h.block⟩
theorem Box.alloc {w : World} {B : Nat} {a : Obj} {w1 : World} (h : Box w B a w1) (b : Obj) : Box w B a (w1.alloc b) := h.next (alc1 _ _)
theorem Box.drewN {w : World} {B : Nat} {a : Obj} {w1 : World} (h : Box w B a w1) (n : Nat) : Box w B a (w1.drewN n) := ⟨below_drewN' h.below n, h.block⟩
theorem Box.drew {w : World} {B : Nat} {a : Obj} {w1 : World} (h : Box w B a w1) : Box w B a w1.drew := ⟨h.below.drew, h.block⟩
theorem Below.of_drewN (w : World) (n : Nat) : Below w.heap.size w (w.drewN n) := below_drewN' (Below.refl _ _) n
theorem own_ints {w : World} {base : Nat} {e : TypeId} {v : Value} {n : Nat} {xs : List Int} (h : w.ownsRow base e 1 v n (xs.map vint)) : Ints w v xs := Arr.of_own h
theorem Ints.cells {w : World} {v : Value} {L : List Int} (h : Ints w v L) (h0 : 0 < L.length) :
  ∃ la lo c, v = .slice (some ⟨la, lo, none⟩) L.length c ∧ la < w.heap.size ∧ L.length ≤ c ∧ c ≤ maxLen ∧ ∀ k (hk : k < L.length), w.cell? ⟨la, lo + k, none⟩ = some (.int .i64 L[k]) := by
 obtain ⟨A, c, rfl, h1, h2, _, hr⟩ := h
 obtain ⟨la, lo, rfl, hb, hc⟩ := hr h0
 exact ⟨la, lo, c, rfl, hb, h1, h2, hc⟩
end Go.Proofs.YtphdalgaemefoaaGreat
namespace Go.Proofs.YtphdalgaemefoaaGreat
set_option maxRecDepth 100000
set_option maxHeartbeats 1000000
open Go.RowKit
set_option linter.unusedVariables false
set_option linter.unusedSimpArgs false
def part (f : Int → Int) (L : List Int) (k : Nat) : List Int := (L.take k).map f ++ L.drop k
theorem part_zero (f : Int → Int) (L : List Int) : part f L 0 = L := by simp [part]
theorem part_all (f : Int → Int) (L : List Int) : part f L L.length = L.map f := by simp [part]
theorem part_length (f : Int → Int) (L : List Int) (k : Nat) : (part f L k).length = L.length := by simp [part]; omega
theorem part_get (f : Int → Int) (L : List Int) (k : Nat) (h : k < L.length) : (part f L k)[k]? = some L[k] := by
 unfold part
 rw [List.getElem?_append_right (by simp; omega)]
 simp [show k - min k L.length = 0 by omega, h]
theorem part_set (f : Int → Int) (L : List Int) (k : Nat) (h : k < L.length) : (part f L k).set k (f L[k]) = part f L (k + 1) := by
 apply List.ext_getElem?
 intro i
 unfold part
 rw [List.getElem?_set]
 by_cases hik : k = i
 ·subst hik
  rw [if_pos rfl, if_pos (by simp; omega), List.getElem?_append_left (by simp; omega)]
  simp [List.getElem?_take, h]
 ·rw [if_neg hik]
  by_cases hlt : i < k
  ·rw [List.getElem?_append_left (by simp; omega), List.getElem?_append_left (by simp; omega)]
   simp [List.getElem?_take, hlt, show i < k + 1 by omega]
  ·rw [List.getElem?_append_right (by simp; omega), List.getElem?_append_right (by simp; omega)]
   simp only [List.length_map, List.length_take, List.getElem?_drop]
   congr 1; omega
theorem own_drewN {w : World} {base : Nat} {e : TypeId} {size : Nat} {v : Value} {n : Nat} {xs : List Value} (h : w.ownsRow base e size v n xs) (k : Nat) : (w.drewN k).ownsRow base e size v n xs := h
theorem own_cell {w : World} {base : Nat} {e : TypeId} {g c n : Nat} {L : List Int} (h : w.ownsRow base e 1 (.slice (some ⟨g, 0, none⟩) n c) n (L.map vint)) (hn : L.length = n) {k : Nat} {x : Int} (hk : L[k]? = some x) : w.cell? ⟨g, k, none⟩ = some (.int .i64 x) := by
 have hlt : k < L.length := (List.getElem?_eq_some_iff.1 hk).1
 rw [h.cellAt k (by omega)]
 simp [hk]
theorem own_put {w : World} {base : Nat} {e : TypeId} {g c n : Nat} {L : List Int} (h : w.ownsRow base e 1 (.slice (some ⟨g, 0, none⟩) n c) n (L.map vint)) (k : Nat) (y : Int) :
  (w.setCell ⟨g, k, none⟩ (.int .i64 y)).ownsRow base e 1 (.slice (some ⟨g, 0, none⟩) n c) n ((L.set k y).map vint) := by
 have h1 := (h.stored k (.int .i64 y)).1
 rw [List.map_set]; exact h1
theorem own_apart {w : World} {base : Nat} {e : TypeId} {size : Nat} {v : Value} {n : Nat} {xs : List Value} (h : w.ownsRow base e size v n xs) {B k : Nat} (hB : B < base) (u : Value) : (w.setCell ⟨B, k, none⟩ u).ownsRow base e size v n xs := by
 refine ⟨h.1, ?_⟩
 rcases h.2 with h' | ⟨g, cap, cur, hv', hbg, hh, r⟩
 ·exact Or.inl h'
 ·exact Or.inr ⟨g, cap, cur, hv', hbg, (Below.heap_setCell _ _ _ _ (by show g ≠ B; omega)).trans hh, r⟩
theorem own_past {w w2 : World} {base e size n row : Nat} {v : Value} {xs : List Value} (h : w.ownsRow base e size v n xs) (hg : w.grownBy w2 (some row)) (hr : w.heap.size ≤ row ∨ v.ownBlock ≠ some row) : w2.ownsRow base e size v n xs :=
 h.kept hg (by
  by_cases hn : v.ownBlock = none
  ·exact .inl hn
  ·refine .inr fun he => ?_
   rcases hr with hr | hr
   ·have := (h.lt _ he).2; omega
   ·exact hr he)
theorem Box.set {w : World} {B : Nat} {a : Obj} {w1 : World} (h : Box w B a w1) {g k : Nat} (hg : w.heap.size ≤ g) (hB : B ≠ g) (u : Value) : Box w B a (w1.setCell ⟨g, k, none⟩ u) :=
 ⟨h.below.setCell (p := ⟨g, k, none⟩) hg u, (Below.heap_setCell _ _ _ _ hB).trans h.block⟩
end Go.Proofs.YtphdalgaemefoaaGreat
namespace Go.Proofs.YtphdalgaemefoaaGreat
set_option maxRecDepth 100000
set_option maxHeartbeats 1000000
open Go.RowKit
set_option linter.unusedVariables false
set_option linter.unusedSimpArgs false
def zerosI (n : Nat) : List Int := List.replicate n 0
theorem zerosI_length (n : Nat) : (zerosI n).length = n := by simp [zerosI]
theorem wpList_makeI {P : Program} (w : World) {ops : Array Oper} {rest : List Oper} {o : Oper} {a : Act} {Q : Exit → Act → World → Prop}
  (hg : o.guard = none) (l c : Operand) (t : TypeId) (hop : o.op = Op.makeSlice t l c) (base : Nat) (e : TypeId) (hE : Elem1 P t e (.int .i64 0) 8)
  (n : Nat) (hl : a.eval l = .int .i64 (n : Int)) (hc : a.eval c = .int .i64 (n : Int)) (hn : n ≤ 1000000000) (b4 : base ≤ w.heap.size)
  (hK : ∀ w', w'.ownsRow base e 1 (.slice (some ⟨w.heap.size, 0, none⟩) n n) n ((zerosI n).map vint) → Below w.heap.size w w' → w.heap.size < w'.heap.size → wpList P ops Q rest (a.put o.dst (.slice (some ⟨w.heap.size, 0, none⟩) n n)) w') :
  wpList P ops Q (o :: rest) a w := by
 obtain ⟨ht, hi, hzs⟩ := hE
 obtain ⟨i, hi0, hz, hsz, hby⟩ := info_parts hi
 refine wpList_make_full w hg l c t hop base e i (.int .i64 0) 1 ht hi0 hz hsz .i64 .i64 _ _ n hl hc rfl rfl (by rw [hby]; omega) (by unfold maxLen; omega) b4 ?_
 intro w' h1 h2
 refine hK w' ?_ ((Below.refl _ _).grown h2 (Nat.le_refl _) (by simp)) ((h1.lt w.heap.size rfl).2)
 rcases h1.2 with ⟨h, _⟩ | ⟨g, cap, cur, hv, hb, hh, hnc, hcm, hs, htake⟩
 ·simp at h
 ·refine ⟨by simp [zerosI], .inr ⟨g, cap, cur, hv, hb, hh, hnc, hcm, hs, ?_⟩⟩
  rw [htake]
  apply List.ext_getElem?
  intro k
  simp [zerosI, madeCells, Value.cells, List.getElem?_replicate]
  by_cases hk : k < n
  ·simp [hk, Nat.mod_one]
  ·simp [hk]
theorem wpList_copyI {P : Program} {w : World} {ops : Array Oper} {rest : List Oper} {o : Oper} {a : Act} {Q : Exit → Act → World → Prop} (hgd : o.guard = none) (d s : Operand) (t : TypeId)
  (ho : o.op = .call { callee := .builtin .copy, args := #[d, s], argTypes := #[t, t] }) (base : Nat) (e : TypeId) (hE : Elem1 P t e (.int .i64 0) 8)
  (dv sv : Value) (n : Nat) (L ys : List Int) (hd : a.eval d = dv) (hs : a.eval s = sv) (hown : w.ownsRow base e 1 dv n (L.map vint)) (hsrc : Ints w sv ys) (hlen : ys.length = n) (hb : base ≤ w.heap.size)
  (h : ∀ w', w'.ownsRow base e 1 dv n (ys.map vint) → Below base w w' → wpList P ops Q rest (a.put o.dst (goInt n)) w') :
  wpList P ops Q (o :: rest) a w := by
 obtain ⟨ht, hi, hzs⟩ := hE
 obtain ⟨i, hi0, hz, hsz, hby⟩ := info_parts hi
 obtain ⟨A, c, rfl, h1, h2, hN, h3⟩ := hsrc
 have hszm : (P.info? e).map (·.size) = some 1 := by rw [hi0]; simp [hsz]
 subst hlen
 by_cases h0 : 0 < ys.length
 ·obtain ⟨b, off, rfl, hblt, hcell⟩ := h3 h0
  rcases hown.2 with ⟨rfl, h0'⟩ | ⟨g, cap, cur, rfl, hbg, hh, hnc, hcm, hs', htake⟩
  ·omega
  ·refine wpList_copy_splice hgd d s t t ho e ht hszm (some ⟨g, 0, none⟩) (some ⟨b, off, none⟩) ys.length cap ys.length c hd hs g 0 cur.toList e (by simpa using hh) (ys.map vint) (by simp)
    (fun _ => ⟨rfl, _, rfl, fun j v hv => ?_⟩) (by simp; omega) (by simp [Value.oneCell']) base w (Below.refl _ _) hbg ?_
   ·have hj : j < ys.length := by have := (List.getElem?_eq_some_iff.1 hv).1; simpa using this
    have ha : (⟨b, off, none⟩ : Addr).add j = ⟨b, off + j, none⟩ := by unfold Addr.add; split <;> simp_all
    rw [ha, hcell j hj]
    simpa [hj] using hv
   ·intro w' hH hB
    have hH' := hH.out
    rw [List.length_map]
    refine h w' ⟨by simp, .inr ⟨g, cap, _, rfl, hbg, hH', hnc, hcm, ?_, ?_⟩⟩ hB
    ·simp [splice]; omega
    ·simp [splice]
 ·have hy : ys = [] := List.eq_nil_of_length_eq_zero (by omega)
  subst hy
  have hdv : ∃ A n c, dv = .slice A n c ∧ n = 0 := by
   rcases hown.2 with ⟨rfl, h0'⟩ | ⟨g, cap, cur, rfl, _⟩
   ·exact ⟨_, _, _, rfl, rfl⟩
   ·exact ⟨_, _, _, rfl, rfl⟩
  obtain ⟨A', n', c', rfl, rfl⟩ := hdv
  refine wpList_copy_nothing hgd d s t t ho e ht hszm A' A 0 c' _ c hd hs (by simp) ?_
  have hL : L = [] := List.eq_nil_of_length_eq_zero (by simpa using hown.1)
  subst hL
  exact h w hown (Below.refl _ _)
end Go.Proofs.YtphdalgaemefoaaGreat
namespace Go.Proofs.YtphdalgaemefoaaGreat
set_option maxRecDepth 100000
set_option maxHeartbeats 1000000
open Go.RowKit
set_option linter.unusedVariables false
set_option linter.unusedSimpArgs false
end Go.Proofs.YtphdalgaemefoaaGreat
namespace Go.Proofs.YtphdalgaemefoaaGreat
set_option maxRecDepth 100000
set_option maxHeartbeats 1000000
open Go.RowKit
set_option linter.unusedVariables false
set_option linter.unusedSimpArgs false
theorem pf_SameInts (v v' : Value) (xs ys : List Int) (w : World) (hx : Ints w v xs) (hy : Ints w v' ys) :
  Calls Tryz.prog 32 #[v, v'] w fun e w' => e = .returned (.bool (xs == ys)) ∧ ∃ n, w' = w.drewN n := by
 obtain ⟨A, c, rfl, hlc, hcm, _, hr⟩ := hx
 obtain ⟨A', c', rfl, hlc', hcm', _, hr'⟩ := hy
 unfold maxLen at hcm hcm'
 have hr1 := Lib.hid hr
 have hr2 := Lib.hid hr'
 clear hr hr'
 by_cases hl : xs.length = ys.length
 ·have hl' := hyd1 hl
  have hl1 : ((xs.length : Int) != (ys.length : Int)) = false := by simp [hl]
  clear hl
  go_enter Tryz.func32, Tryz.ntmps32
  go_wp2
  go_loopw [5] (fun i wr => ∃ k : Nat, k ≤ xs.length ∧ i = .int .i64 k ∧ Hid (∃ n, wr = w.drewN n) ∧ Hid (xs.take k = ys.take k)) (fun i _ => xs.length - (intOf i).toNat)
  case atStart => exact ⟨0, Nat.zero_le _, rfl, ⟨0, rfl⟩, rfl⟩
  case round =>
   obtain ⟨k, hk, rfl, hdr, hpre⟩ := hrel
   obtain ⟨nd, hnd⟩ := hdr.out
   subst hnd
   by_cases hlt : k < xs.length
   ·have hlt' : k < ys.length := by have := hl'.out; omega
    obtain ⟨b1, off1, rfl, hb1, hc1⟩ := hr1.out (by omega)
    obtain ⟨b2, off2, rfl, hb2, hc2⟩ := hr2.out (by omega)
    have hk1 : w.cell? ⟨b1, off1 + k, none⟩ = some (.int .i64 xs[k]) := hc1 k hlt
    have hk2 : w.cell? ⟨b2, off2 + k, none⟩ = some (.int .i64 ys[k]) := hc2 k hlt'
    have ht1 : xs.take (k + 1) = xs.take k ++ [xs[k]] := by rw [List.take_add_one, List.getElem?_eq_getElem hlt]; rfl
    have ht2 : ys.take (k + 1) = ys.take k ++ [ys[k]] := by rw [List.take_add_one, List.getElem?_eq_getElem hlt']; rfl
    have ⟨ht1', ht2'⟩ := hyd2 ht1 ht2
    generalize hxk : xs[k] = x at hk1 ht1'
    generalize hyk : ys[k] = y at hk2 ht2'
    have i1 : (0 : Int) ≤ (k : Int) := by omega
    have i2 : (k : Int) < (xs.length : Int) := by omega
    have i3 : (k : Int) < (ys.length : Int) := by omega
    clear hc1 hc2 ht1 ht2 hdr
    by_cases hxy : x = y
    ·subst hxy
     have hz : (x != x) = false := by simp
     clear hxk hyk
     go_wp2
     go_quiet (fail)
     go_wp2
     go_roundw
     case rel => exact ⟨k + 1, by omega, by go_num, ⟨_, rfl⟩, by rw [ht1'.out, ht2'.out, hpre.out]; exact rfl⟩
     case measure => simp [intOf]; omega
    ·have hz : (x != y) = true := by simpa using hxy
     have hne : (xs == ys) = false := by
      rw [beq_eq_false_iff_ne]
      intro he
      subst he
      exact hxy (hxk.symm.trans hyk)
     have hne' := hyd1 hne
     clear hxk hyk hne hxy
     go_wp2
     go_quiet (fail)
     go_wp2
     go_ret
     exact ⟨ret_bool (by rw [hne'.out]), ⟨_, World.drewN_drewN _ _ _⟩⟩
   ·have he : (xs == ys) = true := by
     rw [beq_iff_eq]
     have h := hpre.out
     rwa [List.take_of_length_le (by omega), List.take_of_length_le (by have := hl'.out; omega)] at h
    have he' := hyd1 he
    clear he
    go_wp2
    go_ret
    exact ⟨ret_bool (by rw [he'.out]), ⟨nd, rfl⟩⟩
 ·have hl1 : ((xs.length : Int) != (ys.length : Int)) = true := by simp; omega
  have he : (xs == ys) = false := by
   rw [beq_eq_false_iff_ne]
   intro h
   exact hl (by rw [h])
  rw [he]
  clear he hl
  go_enter Tryz.func32, Tryz.ntmps32
  go_wp2
  go_ret
  exact ⟨rfl, ⟨0, rfl⟩⟩
theorem grown_put {w wr : World} {g : Nat} (h : w.grownBy wr (some g)) (hg : g < w.heap.size) (k : Nat) (u : Value) : w.grownBy (wr.setCell ⟨g, k, none⟩ u) (some g) :=
 ⟨h.os, h.tape, h.output, by simpa [World.setCell] using h.size, fun b hb hne => (Below.heap_setCell _ _ _ _ (by show b ≠ g; intro e; exact hne (by rw [e]))).trans (h.block b hb hne)⟩
end Go.Proofs.YtphdalgaemefoaaGreat
