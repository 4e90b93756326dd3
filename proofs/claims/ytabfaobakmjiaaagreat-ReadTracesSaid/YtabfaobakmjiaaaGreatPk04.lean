/- Ranges over functions: iterators over an index, by one form of contract. A range over a function whose variables are boxed: each round first makes a box, then .. -/
import Derived.Test.YtabfaobakmjiaaaGreatPk03
import Derived.RangeFuncNested
import Derived.RangeFuncBound
import Derived.RangeFuncCalls
import Derived.RangeFuncLeaves
import Derived.RangeFuncFrom
import Derived.Shelf.Abstract
import Derived.Shelf.RegionOpen
import Derived.OwnWalkIn
import Derived.TacticsInMore
import Derived.LoopNIn
import Derived.LoopIn
import Derived.RangeFuncWrites
namespace Go.Proofs.YtabfaobakmjiaaaGreat
set_option maxRecDepth 100000
set_option maxHeartbeats 2000000
open Go.RowKit Go.Shelf
set_option linter.unusedVariables false
set_option linter.unusedSimpArgs false
attribute [local go_sem] Oper.semAt_some

def Kept (n₀ : Nat) (Bs : List Nat) (W W' : World) : Prop := Below n₀ W W' ∧ ∀ B ∈ Bs, W'.heap[B]? = W.heap[B]?
theorem Kept.refl (n₀ : Nat) (Bs : List Nat) (W : World) : Kept n₀ Bs W W := ⟨Below.refl _ _, fun _ _ => rfl⟩
theorem Kept.trans {n₀ : Nat} {Bs : List Nat} {A B C : World} (h : Kept n₀ Bs A B) (k : Kept n₀ Bs B C) : Kept n₀ Bs A C := ⟨h.1.trans k.1, fun b hb => (k.2 b hb).trans (h.2 b hb)⟩
theorem Kept.cell {n₀ : Nat} {Bs : List Nat} {W W' : World} (h : Kept n₀ Bs W W') {B i : Nat} (hB : B ∈ Bs) : W'.cell? ⟨B, i, none⟩ = W.cell? ⟨B, i, none⟩ := World.cell?_of_block (h.2 B hB)
theorem Kept.put {n₀ : Nat} {Bs : List Nat} {w : World} (hn : n₀ ≤ w.heap.size) (hBs : ∀ B ∈ Bs, B < w.heap.size) (W : World) (l : Nat) (o o' : Obj) (hl : w.heap.size ≤ l) (h : W.heap[l]? = some o) (hc : o.isCells = false) (hw : o.isWalk = false) : Kept n₀ Bs W (W.putObj l o') :=
 ⟨belowK_b hn W l o o' hl h hc hw, fun B hB => World.putObj_heap_other (by have := hBs B hB; omega)⟩

def qKY (P : Program) (g : Nat) (lb : Array Value) (N : Nat) (f : Fin N → Array Value) (n₀ : Nat) (Bs : List Nat) (w : World) : Prop :=
 SeqStopsK Fence.wide 4 P g lb f (Kept n₀ Bs) (fun ys => ys = List.finRange N) (fun pre => pre <+: List.finRange N) N w
theorem qBV {N : Nat} (k : Nat) (h : k < N) : (List.finRange N).take (k + 1) = (List.finRange N).take k ++ [⟨k, h⟩] := by
 have hl : k < (List.finRange N).length := by simpa using h
 rw [List.take_add_one, List.getElem?_eq_getElem hl];simp
theorem qMD {α : Type} {f : α → Value} {w0 W : World} {v : Value} {xs : List α} (h : Arr f w0 v xs) (hb : Below w0.heap.size w0 W) :
  ∃ A c, v = .slice A xs.length c ∧ xs.length ≤ c ∧ c ≤ maxLen ∧ (A = none → c = 0) ∧ (0 < xs.length → ∃ b off, A = some ⟨b, off, none⟩ ∧ b < w0.heap.size ∧ ∀ j (h : j < xs.length), W.cell? ⟨b, off + j, none⟩ = some (f xs[j])) := by
 obtain ⟨A, c, hv, h1, h2, hN, h3⟩ := h;refine ⟨A, c, hv, h1, h2, hN, fun h0 => ?_⟩;obtain ⟨b, off, ha, hlt, hc⟩ := h3 h0;exact ⟨b, off, ha, hlt, fun j hj => (hb.cell (p := ⟨b, off + j, none⟩) hlt).trans (hc j hj)⟩

section
variable {P : Program} {ops : Array Oper} {C : World → Prop} {md : Region.Mode} {l n : Nat}
def qFR (ops : List Oper) : Bool := ops.all fun o => match o.op with | .defer _ => false | _ => true
theorem qEr {os : List Oper} (h : qFR os = true) : ∀ o ∈ os.toArray, ∀ c, o.op ≠ .defer c := by
 intro o ho c hc;have h1 := List.all_eq_true.1 h o (by simpa using ho);simp [hc] at h1
end

def Marks (B : Nat) (w : World) : List Deferred → Prop
 | [] => True
 | d :: ds => (∃ D, d = { target := .collected D, args := #[] } ∧ B ≤ D ∧ w.heap[D]? = some (.deferred (some [])) ∧ ∀ d' ∈ ds, d' ≠ d) ∧ Marks B w ds
theorem Marks.keep {B : Nat} {w w' : World} : ∀ {ds : List Deferred}, Marks B w ds → (∀ D, ({ target := .collected D, args := #[] } : Deferred) ∈ ds → w.heap[D]? = some (.deferred (some [])) → w'.heap[D]? = some (.deferred (some []))) → Marks B w' ds
 | [], _, _ => trivial
 | d :: ds, ⟨⟨D, hd, hB, hD, hne⟩, hr⟩, hk => ⟨⟨D, hd, hB, hk D (by rw [← hd]; simp) hD, hne⟩, Marks.keep hr fun D' hm h => hk D' (by simp [hm]) h⟩
theorem qEs {w w' : World} {base e : Nat} {size n : Nat} {v : Value} {xs : List Value} (h : w.ownsRow base e size v n xs) (hk : ∀ (k : Nat) (o : Obj), w.heap[k]? = some o → o.isCells = true → w'.heap[k]? = some o) : w'.ownsRow base e size v n xs := by
 obtain ⟨h1, h2⟩ := h;refine ⟨h1, ?_⟩
 rcases h2 with h2 | ⟨g, cap, cur, hv, hg, hh, r⟩
 ·exact Or.inl h2
 ·exact Or.inr ⟨g, cap, cur, hv, hg, hk _ _ hh rfl, r⟩
theorem qAZ {P : Program} {F : Fence} {n : Nat} {fn : Func} {tmps : Array Value} {R : Ending → World → Prop} (B : Nat) : ∀ (ds : List Deferred) (w : World), Marks B w ds →
  (∀ w' : World, Below B w w' → (∀ (k : Nat) (o : Obj), w.heap[k]? = some o → o.isCells = true → w'.heap[k]? = some o) → ∃ v, (results fn tmps).run P w' = .ok v w' ∧ R (.returned v) w') → LeavesInM F n P fn tmps R ds .returning w := by
 intro ds
 induction ds with
 | nil => intro w _ h; exact h w (Below.refl _ _) fun _ _ h _ => h
 | cons d ds ih =>
  rintro w ⟨⟨D, rfl, hB, hD, hne⟩, hm⟩ h;refine ⟨by simp, .inl ⟨D, _, rfl, run_takeDeferred hD, ih _ (hm.keep fun D' hmem h' => ?_) fun w' hb hk => ?_⟩⟩
  ·have hDD : D' ≠ D := by
    rintro rfl;exact hne _ hmem rfl
   rw [World.putObj_heap_other hDD]; exact h'
  ·have hb1 : Below B w (w.putObj D (.deferred none)) := (Below.refl B w).grown (grownBy_putObj' w D _) (by have := (gsl hD); omega) (fun k e => by cases e; omega);refine h w' (hb1.trans hb) fun k o ho hc => hk k o ?_ hc
   have hkD : k ≠ D := by
    rintro rfl;rw [hD] at ho
    cases ho
    cases hc
   rw [World.putObj_heap_other hkD]; exact ho

end Go.Proofs.YtabfaobakmjiaaaGreat
namespace Go.Proofs.YtabfaobakmjiaaaGreat
set_option maxRecDepth 100000
set_option maxHeartbeats 2000000
open Go.RowKit Go.Shelf
set_option linter.unusedVariables false
variable {F : Fence} {n : Nat} {P : Program}
theorem qDM {α : Type} {g : Operand} {ps : Array Tmp} {assign body : Code} {Q : Exit → Act → World → Prop} {a : Act} {w : World}
  (hro : F.round = none) (h1 : 1 ≤ n) {gf : Nat} {lb : Array Value} (hg : a.eval g = .func (.func gf) #[] lb) (hFg : F.fn gf) (eg : ∀ args w, (callFunc gf args).run P w = .ok (.enter gf args) w)
  {encs : α → Array Value} {Kp : World → World → Prop} {S Sp : List α → Prop} {N : Nat} {w0 : World} (hseq : SeqStopsK F (n - 1) P gf lb encs Kp S Sp N w0)
  (hKt : ∀ {A B C : World}, Kp A B → Kp B C → Kp A C) (hKb : ∀ (W : World) (l : Nat) (o o' : Obj), w.heap.size ≤ l → W.heap[l]? = some o → o.isCells = false → o.isWalk = false → Kp W (W.putObj l o')) (hb0 : Below w0.heap.size w0 w) (hps : ∀ x, (encs x).size = ps.size)
  (I : List α → World → Prop) (Ix : Code → List α → World → Prop) (hI : OwnFrom w.heap.size I) (hIx : ∀ c, OwnFrom w.heap.size (Ix c)) (h0 : I [] w) (a₁ : α → World → Act) (W₁ : α → World → World)
  (hgrow : ∀ (x : α) (W : World), W.grownBy (W₁ x W) none) (hKa : ∀ (x : α) (W : World), w.heap.size ≤ W.heap.size → Kp W (W₁ x W))
  (hassign : ∀ (l : Nat) (x : α) (W : World) (K : Act → World → Prop), K (a₁ x W) (W₁ x W) →
   assign.wpIn (F.inRound l) (n - 1 - 1) P (Exit.then K (fun _ _ _ => False)) { tmps := (ps.zip (encs x)).foldl (fun t (p, v) => t.setIfInBounds p v) a.tmps, defers := [] } W)
  (hbody : ∀ (l : Nat) (pre : List α) (x : α) (W V : World), I pre V → w.heap.size ≤ W.heap.size → V.heap.size = (W₁ x W).heap.size → (∀ (B : Nat) (o : Obj), (W₁ x W).heap[B]? = some o → o.isCells = true → V.heap[B]? = some o) → pre.length < N →
   body.wpIn (F.inRound l) (n - 1 - 1) P (ownPostG w.heap.size Kp I Ix (pre ++ [x]) V) (a₁ x W) V)
  (hdone : ∀ (D : Nat) (xs : List α) (W : World), w.heap.size ≤ D → S xs → I xs W → W.heap[D]? = some (.deferred (some [])) → Q .normal { a with defers := { target := .collected D, args := #[] } :: a.defers } W)
  (hstop : ∀ (D : Nat) (c : Code) (pre : List α) (W : World), w.heap.size ≤ D → Sp pre → Ix c pre W → W.heap[D]? = some (.deferred (some [])) → c.wpIn F n P Q { a with defers := { target := .collected D, args := #[] } :: a.defers } W) :
  (Code.rangeFunc g ps assign body).wpIn F n P Q a w := by
 refine wpIn_rangeFunc ?_;intro fn hfn;rw [hro];obtain ⟨rec, hrec⟩ : ∃ rec : LoopState → Option Code → Loop, rec = fun st pe => { state := st, pending := pe, fn, tmps := a.tmps, params := ps, assign, body, defers := w.heap.size } := ⟨_, rfl⟩;obtain ⟨W1, hW1⟩ : ∃ W1, (w.alloc (.deferred (some []))).alloc (.loop (rec .ready none)) = W1 := ⟨_, rfl⟩
 have hL1 : W1.heap[w.heap.size + 1]? = some (.loop (rec .ready none)) := by
  rw [← hW1]; have := World.alloc_heap_new (w.alloc (.deferred (some []))) (.loop (rec .ready none)); rwa [World.size_alloc] at this
 have hK1 : W1.heap[w.heap.size]? = some (.deferred (some [])) := by
  rw [← hW1]; exact (Below.heap_alloc _ _ _ (by simp)).trans (World.alloc_heap_new w _)
 have hI1 : I [] W1 := by rw [← hW1]; exact hI.alloc _ (hI.alloc _ h0)
 have hb1 : Below w0.heap.size w0 W1 := by
  rw [← hW1]; exact hb0.trans ((((Below.refl _ w).alloc (Nat.le_refl _) _).alloc (by simp) _).mono hb0.size)
 have far : ∀ {A B : World} {row : Option Nat}, (∀ r, row = some r → W1.heap.size ≤ r ∧ ∃ o : Obj, A.heap[r]? = some o ∧ o.isWalk = true) → (∀ r, row = some r → w.heap.size ≤ r ∧ ∃ o : Obj, A.heap[r]? = some o ∧ o.isCells = false) :=
  fun hr r e => by obtain ⟨hB, o, ho, hw⟩ := hr r e; exact ⟨by rw [← hW1] at hB; simp at hB; omega, o, ho, Obj.not_cells_of_walk hw⟩
 refine ⟨w.heap.size + 1, [{ target := .collected w.heap.size, args := #[] }], W1, { target := .fn (.func gf) lb, args := #[.func (.yield (w.heap.size + 1)) #[] #[]] }, W1, gf,
  #[.func (.yield (w.heap.size + 1)) #[] #[]] ++ lb, W1, ?_, ?_, ?_, ?_, fun _ => h1, ?_⟩
 ·rw [← hW1, hrec]; exact run_enterLoop_outer _ _ _ _ _
 ·simp only [resolve, hg];simp [go_sem]
 ·intro f' hf'; simp [Target.leads] at hf'; subst hf'; exact hFg
 ·simp [invoke, go_sem, eg]
 ·refine (hseq (w.heap.size + 1)
   (fun pre W => I pre W ∧ W.heap[w.heap.size + 1]? = some (.loop (rec .ready none)) ∧ W.heap[w.heap.size]? = some (.deferred (some [])))
   (fun pre W => ∃ c, Ix c pre W ∧ W.heap[w.heap.size + 1]? = some (.loop (rec .done (some c))) ∧ W.heap[w.heap.size]? = some (.deferred (some [])))
   W1 hb1
   (fun s A B row hs hg' hr => ⟨hI s A B row hs.1 hg' (far (B := B) hr), (grownBy_keeps hg' (fun r e => (hr r e).2) hs.2.1 rfl).trans hs.2.1, (grownBy_keeps hg' (fun r e => (hr r e).2) hs.2.2 rfl).trans hs.2.2⟩)
   (fun s A B row hs hg' hr => by
    obtain ⟨c, hc, hl, hk⟩ := hs
    exact ⟨c, hIx c s A B row hc hg' (far (B := B) hr), (grownBy_keeps hg' (fun r e => (hr r e).2) hl rfl).trans hl, (grownBy_keeps hg' (fun r e => (hr r e).2) hk rfl).trans hk⟩)
   ?_ ⟨hI1, hL1, hK1⟩).mono ?_
  ·rintro pre x W ⟨hi, hl, hk⟩ hlen;have hlt : w.heap.size + 1 < W.heap.size := (gsl hl);have hy := run_yield (P := P) (args := encs x) hl (by rw [hrec]; exact hps x);rw [hrec] at hy;have hgr := hgrow x W;have hka := hKa x W (by omega);have hbd := hbody (w.heap.size + 1) pre x W;have hiA : I pre (W₁ x W) := hI pre W _ none hi hgr (fun r e => by cases e);have hlA : (W₁ x W).heap[w.heap.size + 1]? = some (.loop (rec .ready none)) := (hgr.block _ hlt (by simp)).trans hl;have hkA : (W₁ x W).heap[w.heap.size]? = some (.deferred (some [])) := (hgr.block _ (by omega) (by simp)).trans hk;have hltA : w.heap.size + 1 < (W₁ x W).heap.size := (gsl hlA);refine ⟨fn, _, assign, body, hy, roundIn_of_wpIn hfn (hassign _ x W _ ⟨_, run_beginRound hlA (by rw [hrec]), ?_⟩)⟩;generalize W₁ x W = V at *;have hl2 : (V.putObj (w.heap.size + 1) (.loop { rec .ready none with state := .busy })).heap[w.heap.size + 1]? = some (.loop { rec .ready none with state := .busy }) := World.putObj_heap_same hltA;have hk2 : (V.putObj (w.heap.size + 1) (.loop { rec .ready none with state := .busy })).heap[w.heap.size]? = some (.deferred (some [])) := (World.putObj_heap_other (by omega)).trans hkA;have hw2 : Kp W (V.putObj (w.heap.size + 1) (.loop { rec .ready none with state := .busy })) := hKt hka (hKb _ _ _ _ (by omega) hlA rfl rfl);refine wpIn_mono (hbd _ (hI.putObj _ hiA (by omega) hlA rfl) (by omega) (by simp [World.putObj]) (fun B o ho hc => ?_) hlen) ?_
   ·have hne : B ≠ w.heap.size + 1 := by
     rintro rfl;rw [hlA] at ho
     cases ho
     cases hc
    exact (World.putObj_heap_other hne).trans ho
   have fin : ∀ (jump : Option Code) (W3 : World), KeepsFrom w.heap.size (V.putObj (w.heap.size + 1) (.loop { rec .ready none with state := .busy })) W3 →
     (Instr.endRound (w.heap.size + 1) jump).run P W3 = .ok (.bool jump.isNone) (W3.putObj (w.heap.size + 1) (.loop (rec (if jump.isNone then .ready else .done) jump))) ∧
     W3.heap[w.heap.size + 1]? = some (.loop { rec .ready none with state := .busy }) ∧
     (W3.putObj (w.heap.size + 1) (.loop (rec (if jump.isNone then .ready else .done) jump))).heap[w.heap.size + 1]? = some (.loop (rec (if jump.isNone then .ready else .done) jump)) ∧
     (W3.putObj (w.heap.size + 1) (.loop (rec (if jump.isNone then .ready else .done) jump))).heap[w.heap.size]? = some (.deferred (some [])) := fun jump W3 hk3 => by
    have hl3 := hk3.same _ _ (by omega) hl2 rfl;have := run_endRound (P := P) jump hl3;rw [hrec] at this ⊢;exact ⟨this, by rw [hrec] at hl3; exact hl3, World.putObj_heap_same (gsl hl3), (World.putObj_heap_other (by omega)).trans (hk3.same _ _ (Nat.le_refl _) hk2 rfl)⟩
   rintro e a3 W3 hp
   cases e with
   | normal =>
    obtain ⟨hk3, hkp3, hi3⟩ := hp;obtain ⟨hr, hl3, hl4, hk4⟩ := fin none W3 hk3;exact ⟨_, _, hr, .inl ⟨rfl, ⟨hI.putObj _ hi3 (by omega) hl3 rfl, hl4, hk4⟩, hKt (hKt hw2 hkp3) (hKb _ _ _ _ (by omega) hl3 rfl rfl)⟩⟩
   | ret =>
    obtain ⟨hk3, hi3⟩ := hp;obtain ⟨hr, hl3, hl4, hk4⟩ := fin (some .ret) W3 hk3;exact ⟨_, _, hr, .inr ⟨rfl, .ret, (hIx _).putObj _ hi3 (by omega) hl3 rfl, hl4, hk4⟩⟩
   | exit id =>
    obtain ⟨hk3, hi3⟩ := hp;obtain ⟨hr, hl3, hl4, hk4⟩ := fin (some (.exit id)) W3 hk3;exact ⟨_, _, hr, .inr ⟨rfl, .exit id, (hIx _).putObj _ hi3 (by omega) hl3 rfl, hl4, hk4⟩⟩
   | goto t =>
    obtain ⟨hk3, hi3⟩ := hp;obtain ⟨hr, hl3, hl4, hk4⟩ := fin (some (.goto t)) W3 hk3;exact ⟨_, _, hr, .inr ⟨rfl, .goto t, (hIx _).putObj _ hi3 (by omega) hl3 rfl, hl4, hk4⟩⟩
   | panic ch => exact hp.elim
   | outgrown => exact hp.elim
  ·rintro e W2 ⟨⟨v, rfl⟩, (⟨xs, hS, hi, hl, hk⟩ | ⟨pre, hSp, c, hi, hl, hk⟩)⟩
   ·exact ⟨none, _, by have := run_endLoop (P := P) hl (by rw [hrec]; simp); rw [hrec] at this; exact this, hdone _ xs _ (Nat.le_refl _) hS (hI.putObj _ hi (by omega) hl rfl) ((World.putObj_heap_other (by omega)).trans hk)⟩
   ·exact ⟨some c, _, by have := run_endLoop (P := P) hl (by rw [hrec]; simp); rw [hrec] at this; exact this, hstop _ c pre _ (Nat.le_refl _) hSp ((hIx c).putObj _ hi (by omega) hl rfl) ((World.putObj_heap_other (by omega)).trans hk)⟩
end Go.Proofs.YtabfaobakmjiaaaGreat
