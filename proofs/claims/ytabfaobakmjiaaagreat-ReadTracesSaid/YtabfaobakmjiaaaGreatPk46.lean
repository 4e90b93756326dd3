/- Contracts of package rosette (layer 3): Check, CheckRubber and their kin. rosette.picked: for each step what is picked among the offsets of a rubber. Contracts .. -/
import Derived.Test.YtabfaobakmjiaaaGreatPk39
import Derived.Laws.BitsAllLaws
import Derived.Laws.BitsLemmas
import Derived.Lib.Mul64
import Derived.Laws.Bits64b
import Derived.Maps.OwnSet
import Derived.Maps.OwnOps
import Derived.Maps.RangeWalk
namespace Go.Proofs.YtabfaobakmjiaaaGreat
set_option maxRecDepth 100000
set_option maxHeartbeats 4000000
open Go.RowKit
set_option linter.unusedVariables false
set_option linter.unusedSimpArgs false

open Go.RowKit Go.Shelf
attribute [local go_sem] Oper.semAt_some
theorem qCT {P : Program} {f : FuncId} {args : Array Value} {W : World} {n : Nat} {v : Value} (h : Calls P f args (W.drewN n) fun e w' => e = .returned v ∧ W.drewN n = w') :
  Calls P f args (W.drewN n) fun e w'' => e = .returned v ∧ ∃ m, w'' = W.drewN m := h.mono fun _ _ ⟨he, hw⟩ => ⟨he, n, hw.symm⟩
end Go.Proofs.YtabfaobakmjiaaaGreat
namespace Go.Proofs.YtabfaobakmjiaaaGreat
set_option maxRecDepth 100000
set_option maxHeartbeats 4000000
open Go.RowKit
set_option linter.unusedVariables false
set_option linter.unusedSimpArgs false

structure Rd where
 cut : Int
 step : Int
 lo : Int
 hi : Int
deriving DecidableEq
structure Hd where
 ros : List Int
 rub : List Int
instance : Inhabited Hd := ⟨⟨[], []⟩⟩
instance : Inhabited Rd := ⟨⟨0, 0, 0, 0⟩⟩
def SV {α : Type} (k : Nat) (enc : α → List Value) (w : World) (v : Value) (L : List α) : Prop :=
 ∃ A c, v = .slice A L.length c ∧ L.length ≤ c ∧ c ≤ maxLen ∧ (A = none → c = 0) ∧
  (0 < L.length → ∃ b off, A = some ⟨b, off, none⟩ ∧ b < w.heap.size ∧ ∀ j (h : j < L.length) i u, (enc L[j])[i]? = some u → w.cell? ⟨b, off + j * k + i, none⟩ = some u)
section
variable {α : Type} {k : Nat} {enc : α → List Value}
theorem SV.below {w W : World} {v : Value} {L : List α} {n : Nat} (h : SV k enc w v L) (hb : Below n w W) (hn : w.heap.size ≤ n) : SV k enc W v L := by
 obtain ⟨A, c, hv, h1, h2, hN, h3⟩ := h;refine ⟨A, c, hv, h1, h2, hN, fun h0 => ?_⟩;obtain ⟨b, off, ha, hlt, hc⟩ := h3 h0;exact ⟨b, off, ha, by have := hb.size; omega, fun j hj i u hu => (Below.cell hb (p := ⟨b, _, none⟩) (Nat.lt_of_lt_of_le hlt hn)).trans (hc j hj i u hu)⟩
theorem SV.le {w W : World} {v : Value} {L : List α} (h : SV k enc w v L) (hb : Below w.heap.size w W) : SV k enc W v L := h.below hb (Nat.le_refl _)
theorem SV.nil (w : World) : SV k enc w (.slice none 0 0) ([] : List α) := ⟨none, 0, rfl, Nat.le_refl _, Nat.zero_le _, fun _ => rfl, fun h => absurd h (Nat.lt_irrefl 0)⟩
theorem qIv (hk : ∀ x, (enc x).length = k) : ∀ (L : List α) (j : Nat) (h : j < L.length) (i : Nat) (u : Value), (enc L[j])[i]? = some u → (L.flatMap enc)[j * k + i]? = some u
 | x :: xs, 0, _, i, u, hu => by
  have hi := (List.getElem?_eq_some_iff.1 hu).1;have hi2 : i < (enc x).length := hi;rw [List.flatMap_cons, Nat.zero_mul, Nat.zero_add, List.getElem?_append_left hi2];exact hu
 | x :: xs, j + 1, h, i, u, hu => by
  have ih := qIv hk xs j (by simpa using h) i u hu;rw [List.flatMap_cons, List.getElem?_append_right (by rw [hk, Nat.add_mul]; omega), hk, show (j + 1) * k + i - k = j * k + i by rw [Nat.add_mul]; omega];exact ih
theorem SV.of_own {w : World} {base : Nat} {e : TypeId} {v : Value} {L : List α} (hk : ∀ x, (enc x).length = k) (h : w.ownsRow base e k v L.length (L.flatMap enc)) : SV k enc w v L := by
 have h0 := h
 rcases h.2 with ⟨rfl, hx⟩ | ⟨g, cap, cur, rfl, hbg, hg, hnc, hcm, hcs, htake⟩
 ·have hn : L = [] := List.eq_nil_of_length_eq_zero hx;subst hn;exact SV.nil _
 ·refine ⟨some ⟨g, 0, none⟩, cap, rfl, hnc, hcm, fun h => (by cases h), fun _ => ⟨g, 0, rfl, (gsl hg), fun j hj i u hu => ?_⟩⟩;have hi : i < k := by have := (List.getElem?_eq_some_iff.1 hu).1; rwa [hk] at this
  have hlt : j * k + i < L.length * k := by
   have : (j + 1) * k ≤ L.length * k := Nat.mul_le_mul_right _ hj;rw [Nat.add_mul, Nat.one_mul] at this; omega
  rw [Nat.zero_add, h0.cellAt (j * k + i) hlt];exact qIv hk L j hj i u hu
theorem SV.at {w : World} {v : Value} {L : List α} (h : SV k enc w v L) {j : Nat} (hj : j < L.length) : ∃ b off c, v = .slice (some ⟨b, off, none⟩) L.length c ∧ b < w.heap.size ∧ ∀ i u, (enc L[j])[i]? = some u → w.cell? ⟨b, off + j * k + i, none⟩ = some u := by
 obtain ⟨A, c, rfl, h1, h2, hN, h3⟩ := h;obtain ⟨b, off, rfl, hlt, hc⟩ := h3 (by omega);exact ⟨b, off, c, rfl, hlt, hc j hj⟩
theorem SV.slice {w : World} {v : Value} {L : List α} (h : SV k enc w v L) : ∃ A c, v = .slice A L.length c ∧ L.length ≤ maxLen := by
 obtain ⟨A, c, rfl, h1, h2, -⟩ := h;exact ⟨A, c, rfl, by omega⟩
end
def fit64 (z : Int) : Prop := -9223372036854775808 ≤ z ∧ z ≤ 9223372036854775807
theorem newb (w : World) (o : Obj) : ∃ V, w.alloc o = V ∧ Below w.heap.size w V ∧ V.heap[w.heap.size]? = some o := ⟨_, rfl, alc1 _ _, qD4 _ _⟩
theorem blk {w W : World} {B : Nat} {o : Obj} (h : Below w.heap.size w W) (hk : w.heap[B]? = some o) : W.heap[B]? = some o := (h.block B (gsl hk)).trans hk
section
variable {W : World} {X : Nat} {v0 v1 v2 v3 v4 v5 : Value} {t : TypeId}
theorem pc2 (h : W.heap[X]? = some (Obj.cells #[v0, v1] t)) : W.cell? ⟨X, 0, none⟩ = some v0 ∧ W.cell? ⟨X, 1, none⟩ = some v1 := ⟨cell_of_row W X 0 _ _ _ h, cell_of_row W X 1 _ _ _ h⟩
theorem pc4 (h : W.heap[X]? = some (Obj.cells #[v0, v1, v2, v3] t)) : W.cell? ⟨X, 0, none⟩ = some v0 ∧ W.cell? ⟨X, 1, none⟩ = some v1 ∧ W.cell? ⟨X, 2, none⟩ = some v2 ∧ W.cell? ⟨X, 3, none⟩ = some v3 := ⟨cell_of_row W X 0 _ _ _ h, cell_of_row W X 1 _ _ _ h, cell_of_row W X 2 _ _ _ h, cell_of_row W X 3 _ _ _ h⟩
end
theorem pfrz {W : World} {B : Nat} {cs : Array Value} {t : TypeId} (h : W.heap[B]? = some (.cells cs t)) (i : Nat) : W.frozen? ⟨B, i, none⟩ = false := by simp [World.frozen?, h]
end Go.Proofs.YtabfaobakmjiaaaGreat
namespace Go.Proofs.YtabfaobakmjiaaaGreat
set_option maxRecDepth 100000
open Go.RowKit
set_option linter.unusedVariables false
set_option linter.unusedSimpArgs false
def hdV : Option (Nat × Nat × Nat) → Value
 | none => .slice none 0 0
 | some (b, n, c) => .slice (some ⟨b, 0, none⟩) n c
section
variable {w : World} {ops : Array Oper} {rest : List Oper} {o : Oper} {a : Act} {Q : Exit → Act → World → Prop} {B n : Nat} {D : DataW Unit}
end
end Go.Proofs.YtabfaobakmjiaaaGreat
namespace Go.Proofs.YtabfaobakmjiaaaGreat
set_option maxRecDepth 100000
set_option maxHeartbeats 1000000
open Go.RowKit Go.Shelf
set_option linter.unusedVariables false
theorem qEY {B B' : Nat} {W W' : World} (h : KeepsFrom B W W') (hB : B ≤ B') : KeepsFrom B' W W' := ⟨h.size, fun k o hk ho hc => h.same k o (Nat.le_trans hB hk) ho hc⟩
def SeqO {α : Type} (F : Fence) (n : Nat) (P : Program) (g : Nat) (lb : Array Value) (encs : α → Array Value) (G : List α → α → World → Prop) (Kp : World → World → Prop) (S Sp : List α → Prop) (N : Nat) (w : World) : Prop :=
 ∀ (l : Nat) (J Jx : List α → World → Prop) (W : World), Below w.heap.size w W → OwnFrom W.heap.size J → OwnFrom W.heap.size Jx →
  (∀ pre x W1, J pre W1 → G pre x W1 → pre.length < N → YieldAt F (n - 1) P l (encs x) W1 fun e W' =>
   KeepsFrom W.heap.size W1 W' ∧ ((e = .returned (.bool true) ∧ J (pre ++ [x]) W' ∧ Kp W1 W') ∨ (e = .returned (.bool false) ∧ Jx (pre ++ [x]) W'))) →
  J [] W →
  CallsIn F n P g (#[.func (.yield l) #[] #[]] ++ lb) W fun e W' => (∃ v, e = .returned v) ∧ ((∃ xs, S xs ∧ J xs W') ∨ (∃ pre, Sp pre ∧ Jx pre W'))
variable {F : Fence} {n : Nat} {P : Program}
theorem qEm {α : Type} {g : Operand} {ps : Array Tmp} {assign body : Code} {Q : Exit → Act → World → Prop} {a : Act} {w : World}
  (hro : F.round = none) (h1 : 1 ≤ n) {gf : Nat} {lb : Array Value} (hg : a.eval g = .func (.func gf) #[] lb) (hFg : F.fn gf) (eg : ∀ args w, (callFunc gf args).run P w = .ok (.enter gf args) w)
  {encs : α → Array Value} {G : List α → α → World → Prop} {Kp : World → World → Prop} {S Sp : List α → Prop} {N : Nat} {w0 : World} (hseq : SeqO F (n - 1) P gf lb encs G Kp S Sp N w0)
  (hKt : ∀ {A B C : World}, Kp A B → Kp B C → Kp A C) (hKb : ∀ (W : World) (l : Nat) (o o' : Obj), w.heap.size ≤ l → W.heap[l]? = some o → o.isCells = false → o.isWalk = false → Kp W (W.putObj l o')) (hb0 : Below w0.heap.size w0 w) (hps : ∀ x, (encs x).size = ps.size)
  (I : List α → World → Prop) (Ix : Code → List α → World → Prop) (hI : OwnFrom w.heap.size I) (hIx : ∀ c, OwnFrom w.heap.size (Ix c)) (h0 : I [] w) (Ax : List α → α → Act → World → Prop) (hAx : ∀ pre x a' (W : World) (o : Loop) (o' : Obj), Ax pre x a' W → W.heap[w.heap.size + 1]? = some (.loop o) → Ax pre x a' (W.putObj (w.heap.size + 1) o'))
  (hassign : ∀ (l : Nat) (pre : List α) (x : α) (W : World) (K : Act → World → Prop), I pre W → G pre x W → (∀ a' W', KeepsFrom w.heap.size W W' → Kp W W' → I pre W' → Ax pre x a' W' → K a' W') →
   assign.wpIn (F.inRound l) (n - 1 - 1) P (Exit.then K (fun _ _ _ => False)) { tmps := (ps.zip (encs x)).foldl (fun t (p, v) => t.setIfInBounds p v) a.tmps, defers := [] } W)
  (hbody : ∀ (l : Nat) (pre : List α) (x : α) (a' : Act) (W : World), I pre W → Ax pre x a' W → pre.length < N → body.wpIn (F.inRound l) (n - 1 - 1) P (ownPostG w.heap.size Kp I Ix (pre ++ [x]) W) a' W)
  (hdone : ∀ (D : Nat) (xs : List α) (W : World), w.heap.size ≤ D → S xs → I xs W → W.heap[D]? = some (.deferred (some [])) → Q .normal { a with defers := { target := .collected D, args := #[] } :: a.defers } W)
  (hstop : ∀ (D : Nat) (c : Code) (pre : List α) (W : World), w.heap.size ≤ D → Sp pre → Ix c pre W → W.heap[D]? = some (.deferred (some [])) → c.wpIn F n P Q { a with defers := { target := .collected D, args := #[] } :: a.defers } W) :
  (Code.rangeFunc g ps assign body).wpIn F n P Q a w := by
 refine wpIn_rangeFunc ?_;intro fn hfn;rw [hro];obtain ⟨rec, hrec⟩ : ∃ rec : LoopState → Option Code → Loop, rec = fun st pe => { state := st, pending := pe, fn, tmps := a.tmps, params := ps, assign, body, defers := w.heap.size } := ⟨_, rfl⟩;obtain ⟨W1, hW1⟩ : ∃ W1, (w.alloc (.deferred (some []))).alloc (.loop (rec .ready none)) = W1 := ⟨_, rfl⟩;have hz1 : W1.heap.size = w.heap.size + 2 := by rw [← hW1]; simp
 have hL1 : W1.heap[w.heap.size + 1]? = some (.loop (rec .ready none)) := by
  rw [← hW1]; have := World.alloc_heap_new (w.alloc (.deferred (some []))) (.loop (rec .ready none)); rwa [World.size_alloc] at this
 have hK1 : W1.heap[w.heap.size]? = some (.deferred (some [])) := by
  rw [← hW1]; exact (Below.heap_alloc _ _ _ (by simp)).trans (World.alloc_heap_new w _)
 have hI1 : I [] W1 := by rw [← hW1]; exact hI.alloc _ (hI.alloc _ h0)
 have hb1 : Below w0.heap.size w0 W1 := by
  rw [← hW1]; exact hb0.trans ((((Below.refl _ w).alloc (Nat.le_refl _) _).alloc (by simp) _).mono hb0.size)
 have far : ∀ {A : World} {row : Option Nat}, (∀ r, row = some r → W1.heap.size ≤ r ∧ ∃ o : Obj, A.heap[r]? = some o ∧ o.isCells = false) → (∀ r, row = some r → w.heap.size ≤ r ∧ ∃ o : Obj, A.heap[r]? = some o ∧ o.isCells = false) :=
  fun hr r e => by obtain ⟨hB, o⟩ := hr r e; exact ⟨by omega, o⟩
 have still : ∀ {A B : World} {row : Option Nat} {k : Nat} {o : Obj}, A.grownBy B row → (∀ r, row = some r → W1.heap.size ≤ r ∧ ∃ o : Obj, A.heap[r]? = some o ∧ o.isCells = false) → k < w.heap.size + 2 → A.heap[k]? = some o → B.heap[k]? = some o :=
  fun {A B row k o} hg hr hk h => (hg.block k (gsl h) (fun e => by have := (hr k e.symm).1; omega)).trans h
 refine ⟨w.heap.size + 1, [{ target := .collected w.heap.size, args := #[] }], W1, { target := .fn (.func gf) lb, args := #[.func (.yield (w.heap.size + 1)) #[] #[]] }, W1, gf,
  #[.func (.yield (w.heap.size + 1)) #[] #[]] ++ lb, W1, ?_, ?_, ?_, ?_, fun _ => h1, ?_⟩
 ·rw [← hW1, hrec]; exact run_enterLoop_outer _ _ _ _ _
 ·simp only [resolve, hg];simp [go_sem]
 ·intro f' hf'; simp [Target.leads] at hf'; subst hf'; exact hFg
 ·simp [invoke, go_sem, eg]
 ·refine (hseq (w.heap.size + 1)
   (fun pre W => I pre W ∧ W.heap[w.heap.size + 1]? = some (.loop (rec .ready none)) ∧ W.heap[w.heap.size]? = some (.deferred (some [])))
   (fun pre W => ∃ c, Ix c pre W ∧ W.heap[w.heap.size + 1]? = some (.loop (rec .done (some c))) ∧ W.heap[w.heap.size]? = some (.deferred (some [])))
   W1 hb1
   (fun s A B row hs hg' hr => ⟨hI s A B row hs.1 hg' (far (A := A) hr), still hg' hr (by omega) hs.2.1, still hg' hr (by omega) hs.2.2⟩)
   (fun s A B row hs hg' hr => by
    obtain ⟨c, hc, hl, hk⟩ := hs
    exact ⟨c, hIx c s A B row hc hg' (far (A := A) hr), still hg' hr (by omega) hl, still hg' hr (by omega) hk⟩)
   ?_ ⟨hI1, hL1, hK1⟩).mono ?_
  ·rintro pre x W ⟨hi, hl, hk⟩ hg9 hlen;have hlt : w.heap.size + 1 < W.heap.size := (gsl hl);have hy := run_yield (P := P) (args := encs x) hl (by rw [hrec]; exact hps x);rw [hrec] at hy;refine ⟨fn, _, assign, body, hy, roundIn_of_wpIn hfn (hassign _ pre x W _ hi hg9 ?_)⟩;clear hy;intro a' Wa hkfa hkpa hia hax;replace hl := hkfa.same _ _ (by omega) hl rfl;replace hk := hkfa.same _ _ (Nat.le_refl _) hk rfl;replace hlt : w.heap.size + 1 < Wa.heap.size := (gsl hl);have hka := qEY hkfa (B' := W1.heap.size) (by omega);refine ⟨_, run_beginRound hl (by rw [hrec]), ?_⟩;have turn : ∀ (V : World) (o : Obj), KeepsFrom W1.heap.size V (V.putObj (w.heap.size + 1) o) := fun V o => KeepsFrom.of_grownBy (grownBy_putObj' V (w.heap.size + 1) o) (fun j e => by cases e; omega);have hl2 : (Wa.putObj (w.heap.size + 1) (.loop { rec .ready none with state := .busy })).heap[w.heap.size + 1]? = some (.loop { rec .ready none with state := .busy }) := World.putObj_heap_same hlt;have hk2 : (Wa.putObj (w.heap.size + 1) (.loop { rec .ready none with state := .busy })).heap[w.heap.size]? = some (.deferred (some [])) := (World.putObj_heap_other (by omega)).trans hk;have hw2 : Kp Wa (Wa.putObj (w.heap.size + 1) (.loop { rec .ready none with state := .busy })) := hKb _ _ _ _ (by omega) hl rfl rfl;refine wpIn_mono (hbody _ pre x a' _ (hI.putObj _ hia (by omega) hl rfl) (hAx pre x a' _ _ _ hax hl) hlen) ?_;have fin : ∀ (jump : Option Code) (W3 : World), KeepsFrom w.heap.size (Wa.putObj (w.heap.size + 1) (.loop { rec .ready none with state := .busy })) W3 →
     (Instr.endRound (w.heap.size + 1) jump).run P W3 = .ok (.bool jump.isNone) (W3.putObj (w.heap.size + 1) (.loop (rec (if jump.isNone then .ready else .done) jump))) ∧
     W3.heap[w.heap.size + 1]? = some (.loop { rec .ready none with state := .busy }) ∧
     (W3.putObj (w.heap.size + 1) (.loop (rec (if jump.isNone then .ready else .done) jump))).heap[w.heap.size + 1]? = some (.loop (rec (if jump.isNone then .ready else .done) jump)) ∧
     (W3.putObj (w.heap.size + 1) (.loop (rec (if jump.isNone then .ready else .done) jump))).heap[w.heap.size]? = some (.deferred (some [])) ∧
     KeepsFrom W1.heap.size W (W3.putObj (w.heap.size + 1) (.loop (rec (if jump.isNone then .ready else .done) jump))) := fun jump W3 hk3 => by
    have hl3 := hk3.same _ _ (by omega) hl2 rfl;have := run_endRound (P := P) jump hl3;rw [hrec] at this ⊢;exact ⟨this, by rw [hrec] at hl3; exact hl3, World.putObj_heap_same (gsl hl3), (World.putObj_heap_other (by omega)).trans (hk3.same _ _ (Nat.le_refl _) hk2 rfl), ((hka.trans (turn _ _)).trans (qEY hk3 (by omega))).trans (turn _ _)⟩
   rintro e a3 W3 hp
   cases e with
   | normal =>
    obtain ⟨hk3, hkp3, hi3⟩ := hp;obtain ⟨hr, hl3, hl4, hk4, hf4⟩ := fin none W3 hk3;exact ⟨_, _, hr, hf4, .inl ⟨rfl, ⟨hI.putObj _ hi3 (by omega) hl3 rfl, hl4, hk4⟩, hKt hkpa (hKt (hKt hw2 hkp3) (hKb _ _ _ _ (by omega) hl3 rfl rfl))⟩⟩
   | ret =>
    obtain ⟨hk3, hi3⟩ := hp;obtain ⟨hr, hl3, hl4, hk4, hf4⟩ := fin (some .ret) W3 hk3;exact ⟨_, _, hr, hf4, .inr ⟨rfl, .ret, (hIx _).putObj _ hi3 (by omega) hl3 rfl, hl4, hk4⟩⟩
   | exit id =>
    obtain ⟨hk3, hi3⟩ := hp;obtain ⟨hr, hl3, hl4, hk4, hf4⟩ := fin (some (.exit id)) W3 hk3;exact ⟨_, _, hr, hf4, .inr ⟨rfl, .exit id, (hIx _).putObj _ hi3 (by omega) hl3 rfl, hl4, hk4⟩⟩
   | goto t =>
    obtain ⟨hk3, hi3⟩ := hp;obtain ⟨hr, hl3, hl4, hk4, hf4⟩ := fin (some (.goto t)) W3 hk3;exact ⟨_, _, hr, hf4, .inr ⟨rfl, .goto t, (hIx _).putObj _ hi3 (by omega) hl3 rfl, hl4, hk4⟩⟩
   | panic ch => exact hp.elim
   | outgrown => exact hp.elim
  ·rintro e W2 ⟨⟨v, rfl⟩, (⟨xs, hS, hi, hl, hk⟩ | ⟨pre, hSp, c, hi, hl, hk⟩)⟩
   ·exact ⟨none, _, by have := run_endLoop (P := P) hl (by rw [hrec]; simp); rw [hrec] at this; exact this, hdone _ xs _ (Nat.le_refl _) hS (hI.putObj _ hi (by omega) hl rfl) ((World.putObj_heap_other (by omega)).trans hk)⟩
   ·exact ⟨some c, _, by have := run_endLoop (P := P) hl (by rw [hrec]; simp); rw [hrec] at this; exact this, hstop _ c pre _ (Nat.le_refl _) hSp ((hIx c).putObj _ hi (by omega) hl rfl) ((World.putObj_heap_other (by omega)).trans hk)⟩
end Go.Proofs.YtabfaobakmjiaaaGreat
namespace Go.Proofs.YtabfaobakmjiaaaGreat
set_option maxRecDepth 100000
set_option maxHeartbeats 1000000
open Go.RowKit
set_option linter.unusedVariables false
theorem qBl {W : World} {B : Nat} {v : Value} {t : TypeId} (h : W.heap[B]? = some (.cells #[v] t)) : W.cell? ⟨B, 0, none⟩ = some v := by simp [World.cell?, h]
open Go.RowKit Go.Shelf
set_option linter.unusedSimpArgs false
attribute [local go_sem] Oper.semAt_some
end Go.Proofs.YtabfaobakmjiaaaGreat
