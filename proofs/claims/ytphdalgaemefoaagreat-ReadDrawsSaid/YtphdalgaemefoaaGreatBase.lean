/- Generic predicates: a slice that reads as a list; small laws about worlds. Nothing here depends on the program. 'within', in each package that has one. Plain laws of counting: periodic choices of numbers, groups of them. make, look-up and store on rows of one-cell elements of any kind that the call owns. -/
import Derived.Test.YtphdalgaemefoaaGreatRows
import Derived.WalkKit
import Derived.WalkSpells
import Derived.WalkLawsBesides
import Derived.Lib.Hide
import Derived.BigQuiet
import Derived.Deep.QuietTactic
import Derived.Deep.RegionHeld3
import Derived.Deep.DeepCutAuto
import Derived.Laws.OwnMore
import Derived.Laws.EntriesVeiled
import Derived.OwnWalk
import Derived.Laws.CopyOwn
namespace Go.Proofs.YtphdalgaemefoaaGreat
set_option maxRecDepth 100000
open Go.RowKit
set_option linter.unusedVariables false

theorem hyd1 {P0 : Prop} (h0 : P0) : RowKit.Hid P0 := Lib.hid h0
theorem hyd2 {P0 P1 : Prop} (h0 : P0) (h1 : P1) : RowKit.Hid P0 ∧ RowKit.Hid P1 := ⟨Lib.hid h0, Lib.hid h1⟩
theorem hyd3 {P0 P1 P2 : Prop} (h0 : P0) (h1 : P1) (h2 : P2) : RowKit.Hid P0 ∧ RowKit.Hid P1 ∧ RowKit.Hid P2 := ⟨Lib.hid h0, Lib.hid h1, Lib.hid h2⟩
theorem hyd4 {P0 P1 P2 P3 : Prop} (h0 : P0) (h1 : P1) (h2 : P2) (h3 : P3) : RowKit.Hid P0 ∧ RowKit.Hid P1 ∧ RowKit.Hid P2 ∧ RowKit.Hid P3 := ⟨Lib.hid h0, Lib.hid h1, Lib.hid h2, Lib.hid h3⟩
theorem hyd5 {P0 P1 P2 P3 P4 : Prop} (h0 : P0) (h1 : P1) (h2 : P2) (h3 : P3) (h4 : P4) : RowKit.Hid P0 ∧ RowKit.Hid P1 ∧ RowKit.Hid P2 ∧ RowKit.Hid P3 ∧ RowKit.Hid P4 := ⟨Lib.hid h0, Lib.hid h1, Lib.hid h2, Lib.hid h3, Lib.hid h4⟩
theorem hyd6 {P0 P1 P2 P3 P4 P5 : Prop} (h0 : P0) (h1 : P1) (h2 : P2) (h3 : P3) (h4 : P4) (h5 : P5) : RowKit.Hid P0 ∧ RowKit.Hid P1 ∧ RowKit.Hid P2 ∧ RowKit.Hid P3 ∧ RowKit.Hid P4 ∧ RowKit.Hid P5 := ⟨Lib.hid h0, Lib.hid h1, Lib.hid h2, Lib.hid h3, Lib.hid h4, Lib.hid h5⟩
theorem hyd7 {P0 P1 P2 P3 P4 P5 P6 : Prop} (h0 : P0) (h1 : P1) (h2 : P2) (h3 : P3) (h4 : P4) (h5 : P5) (h6 : P6) : RowKit.Hid P0 ∧ RowKit.Hid P1 ∧ RowKit.Hid P2 ∧ RowKit.Hid P3 ∧ RowKit.Hid P4 ∧ RowKit.Hid P5 ∧ RowKit.Hid P6 := ⟨Lib.hid h0, Lib.hid h1, Lib.hid h2, Lib.hid h3, Lib.hid h4, Lib.hid h5, Lib.hid h6⟩
theorem hyd8 {P0 P1 P2 P3 P4 P5 P6 P7 : Prop} (h0 : P0) (h1 : P1) (h2 : P2) (h3 : P3) (h4 : P4) (h5 : P5) (h6 : P6) (h7 : P7) : RowKit.Hid P0 ∧ RowKit.Hid P1 ∧ RowKit.Hid P2 ∧ RowKit.Hid P3 ∧ RowKit.Hid P4 ∧ RowKit.Hid P5 ∧ RowKit.Hid P6 ∧ RowKit.Hid P7 := ⟨Lib.hid h0, Lib.hid h1, Lib.hid h2, Lib.hid h3, Lib.hid h4, Lib.hid h5, Lib.hid h6, Lib.hid h7⟩
theorem gsl {α : Type _} {a : Array α} {i : Nat} {x : α} (h : a[i]? = some x) : i < a.size := by have q := Array.getElem?_eq_some_iff.1 h; exact q.1
theorem bcl {n : Nat} {W W' : World} {b i : Nat} {v : Value} (h : Below n W W') (hb : b < n) (hc : W.cell? ⟨b, i, none⟩ = some v) : W'.cell? ⟨b, i, none⟩ = some v := (Below.cell h (p := ⟨b, i, none⟩) hb).trans hc
def Arr {α : Type} (f : α → Value) (w : World) (v : Value) (xs : List α) : Prop :=
 ∃ A c, v = .slice A xs.length c ∧ xs.length ≤ c ∧ c ≤ maxLen ∧ (A = none → c = 0) ∧
  (0 < xs.length → ∃ b off, A = some ⟨b, off, none⟩ ∧ b < w.heap.size ∧ ∀ j (h : j < xs.length), w.cell? ⟨b, off + j, none⟩ = some (f xs[j]))

abbrev vint : Int → Value := Value.int .i64
abbrev Ints := Arr vint

theorem Arr.below {α : Type} {f : α → Value} {w w' : World} {v : Value} {xs : List α} (h : Arr f w v xs) (hb : Below w.heap.size w w') : Arr f w' v xs := by
 obtain ⟨A, c, hv, h1, h2, hN, h3⟩ := h
 refine ⟨A, c, hv, h1, h2, hN, fun h0 => ?_⟩
 obtain ⟨b, off, ha, hlt, hc⟩ := h3 h0
 exact ⟨b, off, ha, Nat.lt_of_lt_of_le hlt hb.size, fun j hj => (hb.cell (p := ⟨b, off + j, none⟩) hlt).trans (hc j hj)⟩

theorem Arr.nil {α : Type} (f : α → Value) (w : World) : Arr f w (.slice none 0 0) [] :=
 ⟨none, 0, rfl, Nat.le_refl _, Nat.zero_le _, fun _ => rfl, fun h => absurd h (by simp)⟩

theorem Arr.of_own {α : Type} {f : α → Value} {w : World} {base : Nat} {e : TypeId} {v : Value} {n : Nat} {xs : List α} (h : w.ownsRow base e 1 v n (xs.map f)) : Arr f w v xs := by
 obtain ⟨h1, h2⟩ := h
 have hn : n = xs.length := by simpa using h1.symm
 subst hn
 rcases h2 with ⟨rfl, h0⟩ | ⟨g, cap, cur, rfl, hbg, hg, hnc, hcm, hsz, htake⟩
 ·have : xs = [] := List.eq_nil_of_length_eq_zero h0
  subst this
  exact Arr.nil f w
 ·refine ⟨_, cap, rfl, hnc, hcm, fun h => by simp at h, fun _ => ⟨g, 0, rfl, (gsl hg), fun j hj => ?_⟩⟩
  rw [Nat.zero_add, cell_of_row w g j cur e (0, 0) hg]
  have h3 : (cur.toList.take (xs.length * 1))[j]? = some (f xs[j]) := by rw [htake]; simp [hj]
  rw [List.getElem?_take, if_pos (by omega)] at h3
  simpa using h3

theorem bcell {W w1 : World} (hb : Below W.heap.size W w1) : (∀ b o, b < W.heap.size → w1.cell? ⟨b, o, none⟩ = W.cell? ⟨b, o, none⟩) ∧ (∀ b o, b < W.heap.size → w1.frozen? ⟨b, o, none⟩ = W.frozen? ⟨b, o, none⟩) :=
 ⟨fun b o h => hb.cell (p := ⟨b, o, none⟩) h, fun b o h => hb.frozen (p := ⟨b, o, none⟩) h⟩

theorem Below.tr {a b c : World} (h : Below a.heap.size a b) (k : Below b.heap.size b c) : Below a.heap.size a c := h.trans (k.mono h.size)
theorem ret_int {k : IntKind} {a b : Int} (h : a = b) : Ending.returned (Value.int k a) = Ending.returned (.int k b) := by rw [h]
theorem ret_bool {a b : Bool} (h : a = b) : Ending.returned (Value.bool a) = Ending.returned (.bool b) := by rw [h]

def within (n lo hi : Int) : Bool := decide (lo ≤ n) && decide (n ≤ hi)
theorem within_iff {n lo hi : Int} : within n lo hi = true ↔ lo ≤ n ∧ n ≤ hi := by simp [within]
theorem within_not {n lo hi : Int} : within n lo hi = false ↔ n < lo ∨ hi < n := by
 rw [← Bool.not_eq_true, within_iff]; omega

def Plain (P : Program) (g : FuncId) : Prop := ∀ args w, (callFunc g args).run P w = .ok (.enter g args) w

def Elem1 (P : Program) (t e : TypeId) (z : Value) (bytes : Nat) : Prop :=
 P.underlying t = some (.slice e) ∧ (P.info? e).map (fun i => (i.zero, i.size, i.bytes)) = some (some z, 1, bytes) ∧ z.cells.size = 1

section
variable {α : Type} {f : α → Value}
theorem Arr.nil_of {w : World} {v : Value} {xs : List α} (h : Arr f w v xs) (hv : ∀ a n c, v ≠ .slice (some a) n c) : v = .slice none 0 0 ∧ xs = [] := by
 obtain ⟨A, c, rfl, h1, h2, hN, h3⟩ := h
 cases A with
 | some a => exact absurd rfl (hv a _ _)
 | none =>
  have hc := hN rfl
  subst hc
  have hx : xs = [] := List.eq_nil_of_length_eq_zero (by omega)
  subst hx
  exact ⟨rfl, rfl⟩
theorem Arr.news {w : World} {a : Addr} {n c : Nat} {xs : List α} (h : Arr f w (.slice (some a) n c) xs) : ∀ j u, (xs.map f)[j]? = some u → w.cell? (a.add j) = some u := by
 intro j u hu
 obtain ⟨A, c', hv, h1, h2, hN, h3⟩ := h
 have hj : j < xs.length := by
  have := (List.getElem?_eq_some_iff.1 hu).1
  simpa using this
 obtain ⟨b, off, hA, _, hc⟩ := h3 (by omega)
 obtain rfl : a = ⟨b, off, none⟩ := by
  injection hv with hv1 _ _
  rw [hA] at hv1
  exact Option.some.inj hv1
 have : (⟨b, off, none⟩ : Addr).add j = ⟨b, off + j, none⟩ := by unfold Addr.add; split <;> simp_all
 rw [this, hc j hj]
 simpa [hj] using hu
theorem Arr.len {w : World} {a : Option Addr} {n c : Nat} {xs : List α} (h : Arr f w (.slice a n c) xs) : n = xs.length := by
 obtain ⟨A, c', hv, _⟩ := h
 injection hv

theorem run_app {P : Program} {w : World} (t ty : TypeId) (base : Nat) (e : TypeId) (z : Value) (bytes : Nat) (hE : Elem1 P t e z bytes)
  (v : Value) (xs : List α) (hown : w.ownsRow base e 1 v xs.length (xs.map f)) (sv : Value) (ys : List α) (hsrc : Arr f w sv ys) (h1 : ∀ y, (f y).oneCell' = true)
  (hbytes : (xs.length + ys.length) * bytes ≤ 140737488355328) (h63 : xs.length + ys.length ≤ 9000000000000000000) (hbase : base ≤ w.heap.size) :
  ∃ v' w', (Builtin.append_ #[t, t] ty #[v, sv]).run P w = .ok v' w' ∧ w'.ownsRow base e 1 v' (xs ++ ys).length ((xs ++ ys).map f) ∧ w.grownBy w' v.ownBlock ∧ (v'.ownBlock = none ↔ v.ownBlock = none ∧ ys = []) := by
 obtain ⟨ht, hi, hzs⟩ := hE
 obtain ⟨i, hi0, hz, hsz, hby⟩ := info_parts hi
 by_cases hsome : ∃ ad n c, sv = .slice (some ad) n c
 ·obtain ⟨ad, n, c, rfl⟩ := hsome
  have hn := hsrc.len
  subst hn
  obtain ⟨v', w', hr, h2, h3, h4⟩ := run_append_own (P := P) w base t ty e i z 1 bytes ht hi0 hz hsz hby hzs (by decide) v xs.length (xs.map f) hown ad ys.length c (ys.map f) (by simp) hsrc.news (by simp [h1]) (by unfold maxLen; omega) hbytes hbase
  refine ⟨v', w', hr, by simpa using h2, h3, ?_⟩
  have e1 : (v'.ownBlock = none) = (v' = .slice none 0 0) := by
   rcases h2.2 with ⟨rfl, _⟩ | ⟨g, cap, cur, rfl, _⟩ <;> simp [Value.ownBlock]
  have e2 : (v.ownBlock = none) = (v = .slice none 0 0) := by
   rcases hown.2 with ⟨rfl, _⟩ | ⟨g, cap, cur, rfl, _⟩ <;> simp [Value.ownBlock]
  rw [e1, e2, h4]
  simp
 ·obtain ⟨rfl, rfl⟩ := hsrc.nil_of fun a n c hh => hsome ⟨a, n, c, hh⟩
  exact ⟨v, w, run_append_owned_none (P := P) (w := w) base t ty e i 1 ht hi0 v xs.length (xs.map f) hown, by simpa using hown, ⟨rfl, rfl, rfl, Nat.le_refl _, fun _ _ _ => rfl⟩, by simp⟩
theorem wp_app {P : Program} {w : World} {o : Oper} {a : Act} {K : Act → World → Prop} {Q : Exit → Act → World → Prop} (s x : Operand) (t : TypeId)
  (ho : o.op = .call { callee := .builtin .append, args := #[s, x], argTypes := #[t, t] })
  (base : Nat) (e : TypeId) (z : Value) (bytes : Nat) (hE : Elem1 P t e z bytes)
  (v : Value) (xs : List α) (hs : a.eval s = v) (hown : w.ownsRow base e 1 v xs.length (xs.map f))
  (sv : Value) (ys : List α) (hx : a.eval x = sv) (hsrc : Arr f w sv ys) (h1 : ∀ y, (f y).oneCell' = true)
  (hbytes : (xs.length + ys.length) * bytes ≤ 140737488355328) (h63 : xs.length + ys.length ≤ 9000000000000000000) (hbase : base ≤ w.heap.size)
  (h : ∀ v' w', w'.ownsRow base e 1 v' (xs ++ ys).length ((xs ++ ys).map f) → w.grownBy w' v.ownBlock → (v'.ownBlock = none ↔ v.ownBlock = none ∧ ys = []) → K (a.put o.dst v') w') : o.wp P a w K Q := by
 obtain ⟨v', w', hr, h2, h3, h4⟩ := run_app (P := P) (w := w) t o.type base e z bytes hE v xs hown sv ys hsrc h1 hbytes h63 hbase
 unfold Oper.wp execOp
 simp only [ho, resolve, invoke, builtin, Sem.run_bind, Sem.run_pure, Result.andThen_ok, List.map_toArray, List.map_cons, List.map_nil, hs, hx, hr]
 exact h v' w' h2 h3 h4
theorem wpList_app {P : Program} {w : World} {ops : Array Oper} {rest : List Oper} {o : Oper} {a : Act} {Q : Exit → Act → World → Prop} (hgd : o.guard = none) (s x : Operand) (t : TypeId)
  (ho : o.op = .call { callee := .builtin .append, args := #[s, x], argTypes := #[t, t] })
  (base : Nat) (e : TypeId) (z : Value) (bytes : Nat) (hE : Elem1 P t e z bytes)
  (v : Value) (xs : List α) (hs : a.eval s = v) (hown : w.ownsRow base e 1 v xs.length (xs.map f))
  (sv : Value) (ys : List α) (hx : a.eval x = sv) (hsrc : Arr f w sv ys) (h1 : ∀ y, (f y).oneCell' = true)
  (hbytes : (xs.length + ys.length) * bytes ≤ 140737488355328) (h63 : xs.length + ys.length ≤ 9000000000000000000) (hbase : base ≤ w.heap.size)
  (h : ∀ v' w', w'.ownsRow base e 1 v' (xs ++ ys).length ((xs ++ ys).map f) → w.grownBy w' v.ownBlock → (v'.ownBlock = none ↔ v.ownBlock = none ∧ ys = []) → wpList P ops Q rest (a.put o.dst v') w') : wpList P ops Q (o :: rest) a w :=
 wpList_plain hgd fun _ hK => wp_app s x t ho base e z bytes hE v xs hs hown sv ys hx hsrc h1 hbytes h63 hbase fun v' w' h2 h3 h4 => hK _ _ (h v' w' h2 h3 h4)

theorem wp_appI {P : Program} {w : World} {o : Oper} {a : Act} {K : Act → World → Prop} {Q : Exit → Act → World → Prop} (s x : Operand) (t : TypeId)
  (ho : o.op = .call { callee := .builtin .append, args := #[s, x], argTypes := #[t, t] })
  (base : Nat) (e : TypeId) (hE : Elem1 P t e (.int .i64 0) 8)
  (v : Value) (xs : List Int) (hs : a.eval s = v) (hown : w.ownsRow base e 1 v xs.length (xs.map vint))
  (sv : Value) (ys : List Int) (hx : a.eval x = sv) (hsrc : Ints w sv ys)
  (hlen : xs.length + ys.length ≤ 1000000000) (hbase : base ≤ w.heap.size)
  (h : ∀ v' w', w'.ownsRow base e 1 v' (xs ++ ys).length ((xs ++ ys).map vint) → Below base w w' → w.grownBy w' v.ownBlock → (v'.ownBlock = none ↔ v.ownBlock = none ∧ ys = []) → K (a.put o.dst v') w') : o.wp P a w K Q :=
 wp_app s x t ho base e _ 8 hE v xs hs hown sv ys hx hsrc (fun _ => rfl) (by omega) (by omega) hbase fun v' w' h1 h2 h3 =>
  h v' w' h1 ((Below.refl _ _).grown h2 hbase fun k hk => (hown.lt k hk).1) h2 h3
theorem wpList_appI {P : Program} {w : World} {ops : Array Oper} {rest : List Oper} {o : Oper} {a : Act} {Q : Exit → Act → World → Prop} (hgd : o.guard = none) (s x : Operand) (t : TypeId)
  (ho : o.op = .call { callee := .builtin .append, args := #[s, x], argTypes := #[t, t] })
  (base : Nat) (e : TypeId) (hE : Elem1 P t e (.int .i64 0) 8)
  (v : Value) (xs : List Int) (hs : a.eval s = v) (hown : w.ownsRow base e 1 v xs.length (xs.map vint))
  (sv : Value) (ys : List Int) (hx : a.eval x = sv) (hsrc : Ints w sv ys)
  (hlen : xs.length + ys.length ≤ 1000000000) (hbase : base ≤ w.heap.size)
  (h : ∀ v' w', w'.ownsRow base e 1 v' (xs ++ ys).length ((xs ++ ys).map vint) → Below base w w' → w.grownBy w' v.ownBlock → (v'.ownBlock = none ↔ v.ownBlock = none ∧ ys = []) → wpList P ops Q rest (a.put o.dst v') w') : wpList P ops Q (o :: rest) a w :=
 wpList_plain hgd fun _ hK => wp_appI s x t ho base e hE v xs hs hown sv ys hx hsrc hlen hbase fun v' w' h2 h3 h4 h5 => hK _ _ (h v' w' h2 h3 h4 h5)

theorem step_appI {P : Program} {w : World} {ops : Array Oper} {o : Oper} {a : Act} {K : Act → World → Prop} {Q : Exit → Act → World → Prop} {E : Prop} (hgd : o.guard = none) (s x : Operand) (t : TypeId)
  (ho : o.op = .call { callee := .builtin .append, args := #[s, x], argTypes := #[t, t] })
  (base : Nat) (e : TypeId) (hE : Elem1 P t e (.int .i64 0) 8)
  (v : Value) (xs : List Int) (hs : a.eval s = v) (hown : w.ownsRow base e 1 v xs.length (xs.map vint))
  (sv : Value) (ys : List Int) (hx : a.eval x = sv) (hsrc : Ints w sv ys)
  (hlen : xs.length + ys.length ≤ 1000000000) (hbase : base ≤ w.heap.size)
  (h : ∀ v' w', w'.ownsRow base e 1 v' (xs ++ ys).length ((xs ++ ys).map vint) → Below base w w' → w.grownBy w' v.ownBlock → (v'.ownBlock = none ↔ v.ownBlock = none ∧ ys = []) → K (a.put o.dst v') w') :
  if Region.wanted o (yielded ops a.tmps) = true then Oper.wp P o a w K Q else E := by
 have hw : Region.wanted o (yielded ops a.tmps) = true := by simp [Region.wanted, hgd]
 rw [if_pos hw]
 exact wp_appI s x t ho base e hE v xs hs hown sv ys hx hsrc hlen hbase h

theorem Arr.one {w : World} {b : Nat} {y : α} (hb : b < w.heap.size) (hc : w.cell? ⟨b, 0, none⟩ = some (f y)) : Arr f w (.slice (some ⟨b, 0, none⟩) 1 1) [y] :=
 ⟨some ⟨b, 0, none⟩, 1, rfl, by simp, by unfold maxLen; omega, fun h => by simp at h, fun _ => ⟨b, 0, rfl, hb, fun j hj => by
  have : j = 0 := by simpa using hj
  subst this; simpa using hc⟩⟩
end
theorem one_new' {α : Type} (f : α → Value) (w : World) (y : α) (e : TypeId) : Arr f (w.alloc (.cells #[f y] e)) (.slice (some ⟨w.heap.size, 0, none⟩) 1 1) [y] :=
 Arr.one (by simp) (World.cell?_alloc_at _ _ _ _ rfl)
theorem one_newI (w : World) (y : Int) (e : TypeId) : Ints (w.alloc (.cells #[.int .i64 y] e)) (.slice (some ⟨w.heap.size, 0, none⟩) 1 1) [y] := one_new' vint w y e
theorem one_newD (w : World) (y : Int) (e : TypeId) : Ints (w.alloc (.cells #[.int .i64 y] e)).drew (.slice (some ⟨w.heap.size, 0, none⟩) 1 1) [y] := one_new' vint w y e
theorem below_drewN' {B : Nat} {a w : World} (h : Below B a w) (n : Nat) : Below B a (w.drewN n) := ⟨h.os, h.tape, h.output, h.size, h.block⟩
theorem lit_ints (w : World) (zs : List Int) (e : TypeId) (hm : zs.length ≤ maxLen) : Ints (w.alloc (.cells (zs.map vint).toArray e)) (.slice (some ⟨w.heap.size, 0, none⟩) zs.length zs.length) zs :=
 ⟨some ⟨w.heap.size, 0, none⟩, zs.length, rfl, Nat.le_refl _, hm, fun h => by simp at h, fun _ => ⟨w.heap.size, 0, rfl, by simp, fun j hj => by
  rw [Nat.zero_add, World.cell?_alloc_at _ _ _ _ rfl]; simp [hj]⟩⟩
theorem alc1 (w : World) (a : Obj) : Below w.heap.size w (w.alloc a) := (Below.refl _ _).alloc (Nat.le_refl _) a
theorem alc2 (w : World) (a b : Obj) : Below w.heap.size w ((w.alloc a).alloc b) := (alc1 w a).alloc (by simp) b
theorem alc3 (w : World) (a b c : Obj) : Below w.heap.size w (((w.alloc a).alloc b).alloc c) := (alc2 w a b).alloc (by simp; omega) c
theorem alc4 (w : World) (a b c d : Obj) : Below w.heap.size w ((((w.alloc a).alloc b).alloc c).alloc d) := (alc3 w a b c).alloc (by simp; omega) d
theorem own_empty (w : World) (e : TypeId) (base : Nat) (hb : base ≤ w.heap.size) : (w.alloc (.cells #[] e)).ownsRow base e 1 (.slice (some ⟨w.heap.size, 0, none⟩) 0 0) 0 [] :=
 World.ownsRow_made w #[] 0 hb (Nat.zero_le _) rfl
theorem own_base {w : World} {base base' e size n : Nat} {v : Value} {xs : List Value} (h : w.ownsRow base e size v n xs) (hb : base' ≤ base) : w.ownsRow base' e size v n xs := by
 obtain ⟨h1, h2⟩ := h
 refine ⟨h1, ?_⟩
 rcases h2 with h2 | ⟨g, cap, cur, hv, hg, r⟩
 ·exact Or.inl h2
 ·exact Or.inr ⟨g, cap, cur, hv, by omega, r⟩
theorem Grown.below {w w' : World} {row : Option Nat} {B : Nat} {a : World} (h : Below B a w) (hg : w.grownBy w' row) (hB : B ≤ w.heap.size) (hr : ∀ k, row = some k → B ≤ k) : Below B a w' := h.grown hg hB hr
theorem own_below {w w' : World} {base e : Nat} {size n : Nat} {v : Value} {xs : List Value} (h : w.ownsRow base e size v n xs) (hb : Below w.heap.size w w') : w'.ownsRow base e size v n xs := by
 obtain ⟨h1, h2⟩ := h
 refine ⟨h1, ?_⟩
 rcases h2 with h2 | ⟨g, cap, cur, hv, hg, hh, r⟩
 ·exact Or.inl h2
 ·exact Or.inr ⟨g, cap, cur, hv, hg, by rw [hb.block g (gsl hh)]; exact hh, r⟩
theorem own_ne {w : World} {base e : Nat} {size n D : Nat} {v : Value} {xs : List Value} {c : Option (List Deferred)} (h : w.ownsRow base e size v n xs) (hD : w.heap[D]? = some (.deferred c)) : some D ≠ v.ownBlock := by
 intro he
 rcases h.2 with ⟨rfl, _⟩ | ⟨g, cap, cur, rfl, _, hh, _⟩
 ·simp [Value.ownBlock] at he
 ·have : D = g := by simpa [Value.ownBlock] using he
  subst this
  rw [hD] at hh
  cases hh
def cutA (A : Option Addr) (c l : Nat) : Option Addr := if c = l then A else A.map (·.add l)
section
variable {P : Program} {t e : TypeId} {z : Value} {bytes : Nat}
theorem elem_of (hE : Elem1 P t e z bytes) : P.underlying t = some (.slice (P.elem t)) ∧ ∀ W, (sizeOf (P.elem t)).run P W = .ok 1 W := by
 obtain ⟨ht, hi, _⟩ := hE
 obtain ⟨i, hi0, _, hsz, _⟩ := info_parts hi
 have he : P.elem t = e := by simp [Program.elem, ht]
 rw [he]
 exact ⟨ht, fun W => by simp [sizeOf, typeInfo, hi0, hsz]⟩
theorem run_cut_l (hE : Elem1 P t e z bytes) (A : Option Addr) (n c k : Nat) (hk : k ≤ n) (W : World) :
  (Instr.slice t (.slice A n c) (some (.int .i64 (k : Int))) none none).run P W = .ok (.slice (cutA A c k) (n - k) (c - k)) W := by
 obtain ⟨h1, h2⟩ := elem_of hE
 rw [run_slice_l (w := W) t A n c h1 .i64 k (by omega) (by omega), h2]
 simp [Result.andThen, sliced, cutA]
theorem run_cut_h (hE : Elem1 P t e z bytes) (A : Option Addr) (n c k : Nat) (hk : k ≤ c) (W : World) :
  (Instr.slice t (.slice A n c) none (some (.int .i64 (k : Int))) none).run P W = .ok (.slice A k c) W := by
 obtain ⟨h1, h2⟩ := elem_of hE
 rw [run_slice_h (w := W) t A n c h1 .i64 k (by omega) (by omega), h2]
 have hz : (fun x : Addr => x.add 0) = id := by funext x; simp [Addr.add]
 simp [Result.andThen, sliced, hz]
theorem run_cut_lh (hE : Elem1 P t e z bytes) (A : Option Addr) (n c l k : Nat) (hl : l ≤ k) (hk : k ≤ c) (W : World) :
  (Instr.slice t (.slice A n c) (some (.int .i64 (l : Int))) (some (.int .i64 (k : Int))) none).run P W = .ok (.slice (cutA A c l) (k - l) (c - l)) W := by
 obtain ⟨h1, h2⟩ := elem_of hE
 rw [run_slice_lh (w := W) t A n c h1 .i64 .i64 l k (by omega) (by omega) (by omega), h2]
 simp [Result.andThen, sliced, cutA]
end
theorem Arr.cut {α : Type} {f : α → Value} {w : World} {A : Option Addr} {n c : Nat} {xs : List α} (h : Arr f w (.slice A n c) xs) (lo hi : Nat) (h1 : lo ≤ hi) (h2 : hi ≤ n) : Arr f w (.slice (cutA A c lo) (hi - lo) (c - lo)) ((xs.drop lo).take (hi - lo)) := by
 have hn := h.len
 obtain ⟨A', c', hv, hc1, hc2, hN, hr⟩ := h
 obtain ⟨rfl, -, rfl⟩ : A = A' ∧ n = xs.length ∧ c = c' := by injection hv with a1 a2 a3; exact ⟨a1, a2, a3⟩
 have hlen : ((xs.drop lo).take (hi - lo)).length = hi - lo := by simp; omega
 refine ⟨cutA A c lo, c - lo, by rw [hlen], by omega, by omega, fun he => ?_, fun h0 => ?_⟩
 ·unfold cutA at he
  split at he
  ·have := hN he; omega
  ·have : A = none := by cases A <;> simp_all
   have := hN this; omega
 ·rw [hlen] at h0
  obtain ⟨b, off, rfl, hb, hcell⟩ := hr (by omega)
  refine ⟨b, off + lo, ?_, hb, fun j hj => ?_⟩
  ·unfold cutA
   rw [if_neg (by omega)]
   simp only [Option.map_some]
   congr 1
   unfold Addr.add; split <;> simp_all
  ·rw [hlen] at hj
   have := hcell (lo + j) (by omega)
   rw [show off + lo + j = off + (lo + j) from by omega, this]
   simp
end Go.Proofs.YtphdalgaemefoaaGreat
namespace Go.Proofs.YtphdalgaemefoaaGreat
set_option maxRecDepth 100000
open Go.RowKit
set_option linter.unusedVariables false
set_option linter.unusedSimpArgs false
theorem pf_within_pattern (n lo hi : Int) (w : World) : Calls Tryz.prog 28 #[.int .i64 n, .int .i64 lo, .int .i64 hi] w fun e w' => e = .returned (.bool (within n lo hi)) ∧ w = w' := by
 unfold within
 by_cases h1 : lo ≤ n
 ·by_cases h2 : n ≤ hi
  all_goals
   go_enter Tryz.func28, Tryz.ntmps28
   go_wp2
   go_ret
   simp [h1, h2]
 ·have h1' : decide (lo ≤ n) = false := by simpa using h1
  rw [h1', Bool.false_and]
  go_enter Tryz.func28, Tryz.ntmps28
  go_wp2
  go_ret
  exact ⟨rfl, rfl⟩
theorem pf_within_barleycornref03 (n lo hi : Int) (w : World) : Calls Tryz.prog 63 #[.int .i64 n, .int .i64 lo, .int .i64 hi] w fun e w' => e = .returned (.bool (within n lo hi)) ∧ w = w' := by
 unfold within
 by_cases h1 : lo ≤ n
 ·by_cases h2 : n ≤ hi
  all_goals
   go_enter Tryz.func63, Tryz.ntmps63
   go_wp2
   go_ret
   simp [h1, h2]
 ·have h1' : decide (lo ≤ n) = false := by simpa using h1
  rw [h1', Bool.false_and]
  go_enter Tryz.func63, Tryz.ntmps63
  go_wp2
  go_ret
  exact ⟨rfl, rfl⟩
theorem pf_within_read (n lo hi : Int) (w : World) : Calls Tryz.prog 48 #[.int .i64 n, .int .i64 lo, .int .i64 hi] w fun e w' => e = .returned (.bool (within n lo hi)) ∧ w = w' := by
 unfold within
 by_cases h1 : lo ≤ n
 ·by_cases h2 : n ≤ hi
  all_goals
   go_enter Tryz.func48, Tryz.ntmps48
   go_wp2
   go_ret
   simp [h1, h2]
 ·have h1' : decide (lo ≤ n) = false := by simpa using h1
  rw [h1', Bool.false_and]
  go_enter Tryz.func48, Tryz.ntmps48
  go_wp2
  go_ret
  exact ⟨rfl, rfl⟩
theorem pf_within_barleycornref09 (n lo hi : Int) (w : World) : Calls Tryz.prog 41 #[.int .i64 n, .int .i64 lo, .int .i64 hi] w fun e w' => e = .returned (.bool (within n lo hi)) ∧ w = w' := by
 unfold within
 by_cases h1 : lo ≤ n
 ·by_cases h2 : n ≤ hi
  all_goals
   go_enter Tryz.func41, Tryz.ntmps41
   go_wp2
   go_ret
   simp [h1, h2]
 ·have h1' : decide (lo ≤ n) = false := by simpa using h1
  rw [h1', Bool.false_and]
  go_enter Tryz.func41, Tryz.ntmps41
  go_wp2
  go_ret
  exact ⟨rfl, rfl⟩
end Go.Proofs.YtphdalgaemefoaaGreat
namespace Go.Proofs.YtphdalgaemefoaaGreat
set_option maxRecDepth 100000
set_option linter.unusedVariables false
def cntF (f : Int → Bool) (n : Nat) (a : Int) : Nat := (List.range n).countP fun (k : Nat) => f (a + (k : Int))
theorem cntF_succ (f : Int → Bool) (n : Nat) (a : Int) : cntF f (n + 1) a = cntF f n a + (if f (a + n) then 1 else 0) := by
 unfold cntF
 rw [List.range_succ, List.countP_append]
 simp [List.countP_cons]
theorem cntF_first (f : Int → Bool) : ∀ (n : Nat) (a : Int), cntF f (n + 1) a = (if f a then 1 else 0) + cntF f n (a + 1)
 | 0, a => by simp [cntF, List.range_succ]
 | n + 1, a => by
  rw [cntF_succ f (n + 1) a, cntF_first f n a, cntF_succ f n (a + 1)]
  rw [show a + 1 + (n : Int) = a + ((n + 1 : Nat) : Int) by omega]
  omega
theorem cntF_step (f : Int → Bool) (n : Nat) (hper : ∀ c, f (c + n) = f c) (a : Int) : cntF f n (a + 1) = cntF f n a := by
 have h1 := cntF_succ f n a
 have h2 := cntF_first f n a
 rw [hper a] at h1
 omega
theorem cntF_nat (f : Int → Bool) (n : Nat) (hper : ∀ c, f (c + n) = f c) (a : Int) : ∀ k : Nat, cntF f n (a + k) = cntF f n a
 | 0 => by simp
 | k + 1 => by
  rw [show a + ((k + 1 : Nat) : Int) = (a + k) + 1 by omega, cntF_step f n hper, cntF_nat f n hper a k]
theorem cntF_any (f : Int → Bool) (n : Nat) (hper : ∀ c, f (c + n) = f c) (a : Int) : cntF f n a = cntF f n 0 := by
 by_cases h : 0 ≤ a
 ·have := cntF_nat f n hper 0 a.toNat
  rwa [show (0 : Int) + (a.toNat : Int) = a by omega] at this
 ·have := cntF_nat f n hper a (-a).toNat
  rw [show a + ((-a).toNat : Int) = 0 by omega] at this
  exact this.symm
theorem cntF_moved (f g : Int → Bool) (n : Nat) (hper : ∀ c, f (c + n) = f c) (c0 : Int) (hg : ∀ c, g c = f (c - c0)) : cntF g n 0 = cntF f n 0 := by
 rw [← cntF_any f n hper (-c0)]
 unfold cntF
 congr 1
 funext k
 rw [hg]
 congr 1
 omega
theorem cntF_none (f : Int → Bool) (n : Nat) (h : ∀ c, f c = false) : cntF f n 0 = 0 := by
 unfold cntF
 exact List.countP_eq_zero.2 (fun k _ => by simp [h])
theorem least_of (P : Nat → Prop) [DecidablePred P] : ∀ m, P m → ∃ d, d ≤ m ∧ P d ∧ ∀ e, e < d → ¬ P e := by
 intro m
 induction m using Nat.strongRecOn with
 | ind m ih =>
  intro hm
  by_cases h : ∃ e, e < m ∧ P e
  ·obtain ⟨e, he, hp⟩ := h
   obtain ⟨d, h1, h2, h3⟩ := ih e he hp
   exact ⟨d, by omega, h2, h3⟩
  ·exact ⟨m, Nat.le_refl _, hm, fun e he hp => h ⟨e, he, hp⟩⟩
theorem group_mult (f : Int → Bool) (n : Nat) (hn : 1 ≤ n) (hf : f n = true) (hadd : ∀ a b, f a = true → f b = true → f (a + b) = true) (hneg : ∀ a, f a = true → f (-a) = true) :
  ∃ d : Nat, 1 ≤ d ∧ ∀ c, f c = true ↔ (d : Int) ∣ c := by
 obtain ⟨d, hd1, ⟨hd2, hd3⟩, hd4⟩ := least_of (fun k => 1 ≤ k ∧ f (k : Int) = true) n ⟨hn, hf⟩
 have h0 : f 0 = true := by
  have := hadd n (-n) hf (hneg _ hf)
  rwa [Int.add_right_neg] at this
 have hmul : ∀ k : Nat, f ((d : Int) * k) = true := by
  intro k
  induction k with
  | zero => simpa using h0
  | succ k ih => rw [show (d : Int) * ((k + 1 : Nat) : Int) = d * k + d by rw [Int.natCast_add, Int.mul_add]; simp]; exact hadd _ _ ih hd3
 have hmulI : ∀ k : Int, f ((d : Int) * k) = true := by
  intro k
  rcases Int.eq_nat_or_neg k with ⟨m, rfl | rfl⟩
  ·exact hmul m
  ·rw [Int.mul_neg]; exact hneg _ (hmul m)
 refine ⟨d, hd2, fun c => ⟨fun hc => ?_, ?_⟩⟩
 ·have hm := Int.emod_add_mul_ediv c d
  have h1 := Int.emod_nonneg c (show (d : Int) ≠ 0 by omega)
  have h2 := Int.emod_lt_of_pos c (show (0 : Int) < d by omega)
  have hr : f (c % d) = true := by
   have := hadd c _ hc (hneg _ (hmulI (c / d)))
   rwa [show c + -((d : Int) * (c / d)) = c % d by omega] at this
  by_cases hz : c % d = 0
  ·exact Int.dvd_of_emod_eq_zero hz
  ·exact absurd ⟨by omega, by rwa [Int.toNat_of_nonneg h1]⟩ (hd4 (c % d).toNat (by omega))
 ·rintro ⟨k, rfl⟩
  exact hmulI k
theorem count_block (d : Nat) (hd : 1 ≤ d) (f : Int → Bool) (h : ∀ c, f c = true ↔ (d : Int) ∣ c) : ∀ e : Nat, cntF f (d * e) 0 = e
 | 0 => by simp [cntF]
 | e + 1 => by
  have ih := count_block d hd f h e
  have hblk : ∀ m : Nat, m < d → cntF f (d * e + (m + 1)) 0 = e + 1 := by
   intro m
   induction m with
   | zero =>
    intro _
    rw [show d * e + (0 + 1) = d * e + 1 by omega, cntF_succ, ih, if_pos]
    rw [h]
    simp only [Int.zero_add, Int.natCast_mul]
    exact Int.dvd_mul_right _ _
   | succ m im =>
    intro hm
    rw [show d * e + (m + 1 + 1) = (d * e + (m + 1)) + 1 by omega, cntF_succ, im (by omega), if_neg]
    rw [h]
    rintro ⟨z, hz⟩
    have h1 : (d : Int) * z = d * e + (m + 1) := by rw [← hz]; simp
    have h2 : (d : Int) * (z - e) = (m + 1) := by rw [Int.mul_sub]; omega
    have h3 : 0 < z - (e : Int) := by
     rcases Int.lt_or_le 0 (z - (e : Int)) with h | h
     ·exact h
     ·have := Int.mul_le_mul_of_nonneg_left h (show (0 : Int) ≤ d by omega)
      omega
    have h4 : (d : Int) * 1 ≤ d * (z - e) := Int.mul_le_mul_of_nonneg_left (by omega) (by omega)
    omega
  have := hblk (d - 1) (by omega)
  rwa [show d * e + (d - 1 + 1) = d * (e + 1) by rw [Nat.mul_add]; omega] at this
theorem group_count (f : Int → Bool) (n : Nat) (hn : 1 ≤ n) (hf : f n = true) (hadd : ∀ a b, f a = true → f b = true → f (a + b) = true) (hneg : ∀ a, f a = true → f (-a) = true) : cntF f n 0 ∣ n ∧ 1 ≤ cntF f n 0 := by
 obtain ⟨d, hd, h⟩ := group_mult f n hn hf hadd hneg
 have hdn : d ∣ n := Int.natCast_dvd_natCast.1 ((h n).1 hf)
 obtain ⟨e, rfl⟩ := hdn
 rw [count_block d hd f h e]
 refine ⟨Nat.dvd_mul_left _ _, ?_⟩
 rcases Nat.eq_zero_or_pos e with rfl | h
 ·simp at hn
 ·exact h
theorem four_classes (k n : Nat) (hk : k ∣ n) (b1 b2 b3 : Bool) (h12 : b1 = true → b2 = true → b3 = true) (h13 : b1 = true → b3 = true → b2 = true) (h23 : b2 = true → b3 = true → b1 = true) :
  (k + (if b1 then k else 0) + (if b2 then k else 0) + (if b3 then k else 0)) ∣ 4 * n := by
 obtain ⟨d, rfl⟩ := hk
 cases b1 <;> cases b2 <;> cases b3 <;> simp at h12 h13 h23 ⊢
 ·exact ⟨4 * d, by rw [Nat.mul_left_comm]⟩
 ·exact ⟨2 * d, by rw [show k + k = 2 * k by omega, Nat.mul_assoc 2 k, Nat.mul_left_comm k 2 d, ← Nat.mul_assoc 2 2]⟩
 ·exact ⟨2 * d, by rw [show k + k = 2 * k by omega, Nat.mul_assoc 2 k, Nat.mul_left_comm k 2 d, ← Nat.mul_assoc 2 2]⟩
 ·exact ⟨2 * d, by rw [show k + k = 2 * k by omega, Nat.mul_assoc 2 k, Nat.mul_left_comm k 2 d, ← Nat.mul_assoc 2 2]⟩
 ·exact ⟨d, by rw [show k + k + k + k = 4 * k by omega, Nat.mul_assoc]⟩
def allB (T : Nat → Bool) (k : Nat) : Bool := (List.range k).all T
theorem allB_succ (T : Nat → Bool) (k : Nat) : allB T (k + 1) = (allB T k && T k) := by
 unfold allB; rw [List.range_succ]; simp
theorem allB_iff (T : Nat → Bool) (k : Nat) : allB T k = true ↔ ∀ j, j < k → T j = true := by
 unfold allB; simp
def someB (T : Nat → Bool) (k : Nat) : Bool := (List.range k).any T
theorem someB_succ (T : Nat → Bool) (k : Nat) : someB T (k + 1) = (someB T k || T k) := by
 unfold someB; rw [List.range_succ]; simp
theorem someB_iff (T : Nat → Bool) (k : Nat) : someB T k = true ↔ ∃ j, j < k ∧ T j = true := by
 unfold someB; simp
theorem someB_mem {α : Type} [DecidableEq α] (L : List α) (x : α) (T : Nat → Bool) (hT : ∀ i (h : i < L.length), T i = decide (L[i] = x)) : someB T L.length = true ↔ x ∈ L := by
 rw [someB_iff, List.mem_iff_getElem]
 constructor
 ·rintro ⟨j, hj, h⟩
  exact ⟨j, hj, by rw [hT j hj] at h; exact of_decide_eq_true h⟩
 ·rintro ⟨j, hj, h⟩
  exact ⟨j, hj, by rw [hT j hj]; exact decide_eq_true h⟩
end Go.Proofs.YtphdalgaemefoaaGreat
namespace Go.Proofs.YtphdalgaemefoaaGreat
set_option maxRecDepth 100000
open Go.RowKit
set_option linter.unusedVariables false
set_option linter.unusedSimpArgs false
theorem own_form {w : World} {base : Nat} {e : TypeId} {v : Value} {n : Nat} {xs : List Value} (h : w.ownsRow base e 1 v n xs) (hn : 0 < n) :
  ∃ g c, v = .slice (some ⟨g, 0, none⟩) n c ∧ base ≤ g ∧ g < w.heap.size ∧ n ≤ c ∧ c ≤ maxLen := by
 rcases h.2 with ⟨rfl, h0⟩ | ⟨g, cap, cur, rfl, hbg, hg, hnc, hcm, hsz, htake⟩
 ·omega
 ·exact ⟨g, cap, rfl, hbg, (gsl hg), hnc, hcm⟩
theorem own_formS {w : World} {base : Nat} {e : TypeId} {v : Value} {n : Nat} {xs : List Value} (h : w.ownsRow base e 1 v n xs) (hn : v.ownBlock ≠ none) : ∃ g c, v = .slice (some ⟨g, 0, none⟩) n c ∧ base ≤ g ∧ g < w.heap.size ∧ n ≤ c ∧ c ≤ maxLen := by
 rcases h.2 with ⟨rfl, h0⟩ | ⟨g, cap, cur, rfl, hbg, hg, hnc, hcm, hsz, htake⟩
 ·exact absurd rfl hn
 ·exact ⟨g, cap, rfl, hbg, (gsl hg), hnc, hcm⟩
theorem set_apart {B g : Nat} (hne : B ≠ g) (W : World) (k o : Nat) (u : Value) : (W.setCell ⟨g, k, none⟩ u).cell? ⟨B, o, none⟩ = W.cell? ⟨B, o, none⟩ := World.cell?_of_block (Below.heap_setCell _ _ _ _ hne)
theorem wpList_makeG {α : Type} {f : α → Value} {P : Program} (w : World) {ops : Array Oper} {rest : List Oper} {o : Oper} {a : Act} {Q : Exit → Act → World → Prop}
  (hg : o.guard = none) (l c : Operand) (t : TypeId) (hop : o.op = Op.makeSlice t l c) (base : Nat) (e : TypeId) (z0 : α) (bytes : Nat) (hE : Elem1 P t e (f z0) bytes) (hz1 : (f z0).cells = #[f z0]) (hby : bytes ≤ 100000)
  (n : Nat) (hl : a.eval l = .int .i64 (n : Int)) (hc : a.eval c = .int .i64 (n : Int)) (hn : n ≤ 1000000000) (b4 : base ≤ w.heap.size)
  (L : List α) (hL : L = List.replicate n z0)
  (hK : ∀ w', w'.ownsRow base e 1 (.slice (some ⟨w.heap.size, 0, none⟩) n n) n (L.map f) → Below w.heap.size w w' → w.heap.size < w'.heap.size → wpList P ops Q rest (a.put o.dst (.slice (some ⟨w.heap.size, 0, none⟩) n n)) w') :
  wpList P ops Q (o :: rest) a w := by
 obtain ⟨ht, hi, hzs⟩ := hE
 obtain ⟨i, hi0, hz, hsz, hby'⟩ := info_parts hi
 subst hL
 refine wpList_make_full w hg l c t hop base e i (f z0) 1 ht hi0 hz hsz .i64 .i64 _ _ n hl hc rfl rfl (by rw [hby']; exact Nat.le_trans (Nat.mul_le_mul hby hn) (by decide)) (by unfold maxLen; omega) b4 ?_
 intro w' h1 h2
 refine hK w' ?_ ((Below.refl _ _).grown h2 (Nat.le_refl _) (by simp)) ((h1.lt w.heap.size rfl).2)
 rcases h1.2 with ⟨h, _⟩ | ⟨g, cap, cur, hv, hb, hh, hnc, hcm, hs, htake⟩
 ·simp at h
 ·refine ⟨by simp, .inr ⟨g, cap, cur, hv, hb, hh, hnc, hcm, hs, ?_⟩⟩
  rw [htake, hz1]
  apply List.ext_getElem?
  intro k
  simp [madeCells, List.getElem?_replicate]
  by_cases hk : k < n
  ·simp [hk, Nat.mod_one]
  ·simp [hk]
theorem own_cellG {α : Type} {f : α → Value} {w : World} {base : Nat} {e : TypeId} {g c n : Nat} {L : List α} (h : w.ownsRow base e 1 (.slice (some ⟨g, 0, none⟩) n c) n (L.map f)) (hn : L.length = n) {k : Nat} {x : α} (hk : L[k]? = some x) : w.cell? ⟨g, k, none⟩ = some (f x) := by
 have hlt : k < L.length := (List.getElem?_eq_some_iff.1 hk).1
 rw [h.cellAt k (by omega)]
 simp [hk]
theorem own_putG {α : Type} {f : α → Value} {w : World} {base : Nat} {e : TypeId} {g c n : Nat} {L : List α} (h : w.ownsRow base e 1 (.slice (some ⟨g, 0, none⟩) n c) n (L.map f)) (k : Nat) (y : α) :
  (w.setCell ⟨g, k, none⟩ (f y)).ownsRow base e 1 (.slice (some ⟨g, 0, none⟩) n c) n ((L.set k y).map f) := by
 have h1 := (h.stored k (f y)).1
 rw [List.map_set]; exact h1
end Go.Proofs.YtphdalgaemefoaaGreat
