/- A range over an iterator that itself ranges over a function: between two rounds such an iterator turns records of loops, not walks of maps alone; and a round keeps what is no cells and was laid since the iterator began. Lists of spans whose block says that it holds spans. What the rounds of the search keep: blocks of the search's own types, and what lay below. slices.Backward over a list of numbers. -/
import Derived.Test.YtphdalgaemefoaaGreatRf
import Derived.Test.YtphdalgaemefoaaGreatPicKit
import Derived.Test.YtphdalgaemefoaaGreatRdMapR
namespace Go.Proofs.YtphdalgaemefoaaGreat
set_option maxRecDepth 100000
set_option maxHeartbeats 1000000
open Go.RowKit Go.Shelf
set_option linter.unusedVariables false
theorem keepsFrom_mono {B B' : Nat} {W W' : World} (h : KeepsFrom B W W') (hB : B ≤ B') : KeepsFrom B' W W' := ⟨h.size, fun k o hk ho hc => h.same k o (Nat.le_trans hB hk) ho hc⟩
def SeqO {α : Type} (F : Fence) (n : Nat) (P : Program) (g : Nat) (lb : Array Value) (encs : α → Array Value) (G : List α → α → World → Prop) (Kp : World → World → Prop) (S Sp : List α → Prop) (N : Nat) (w : World) : Prop :=
 ∀ (l : Nat) (J Jx : List α → World → Prop) (W : World), Below w.heap.size w W → OwnFrom W.heap.size J → OwnFrom W.heap.size Jx →
  (∀ pre x W1, J pre W1 → G pre x W1 → pre.length < N → YieldAt F (n - 1) P l (encs x) W1 fun e W' =>
   KeepsFrom W.heap.size W1 W' ∧ ((e = .returned (.bool true) ∧ J (pre ++ [x]) W' ∧ Kp W1 W') ∨ (e = .returned (.bool false) ∧ Jx (pre ++ [x]) W'))) →
  J [] W →
  CallsIn F n P g (#[.func (.yield l) #[] #[]] ++ lb) W fun e W' => (∃ v, e = .returned v) ∧ ((∃ xs, S xs ∧ J xs W') ∨ (∃ pre, Sp pre ∧ Jx pre W'))
variable {F : Fence} {n : Nat} {P : Program}
theorem wpIn_rangeFunc_ownO {α : Type} {g : Operand} {ps : Array Tmp} {assign body : Code} {Q : Exit → Act → World → Prop} {a : Act} {w : World}
  (hro : F.round = none) (h1 : 1 ≤ n) {gf : Nat} {lb : Array Value} (hg : a.eval g = .func (.func gf) #[] lb) (hFg : F.fn gf) (eg : ∀ args w, (callFunc gf args).run P w = .ok (.enter gf args) w)
  {encs : α → Array Value} {G : List α → α → World → Prop} {Kp : World → World → Prop} {S Sp : List α → Prop} {N : Nat} {w0 : World} (hseq : SeqO F (n - 1) P gf lb encs G Kp S Sp N w0)
  (hKt : ∀ {A B C : World}, Kp A B → Kp B C → Kp A C) (hKb : ∀ (W : World) (l : Nat) (o o' : Obj), w.heap.size ≤ l → W.heap[l]? = some o → o.isCells = false → o.isWalk = false → Kp W (W.putObj l o')) (hb0 : Below w0.heap.size w0 w) (hps : ∀ x, (encs x).size = ps.size)
  (I : List α → World → Prop) (Ix : Code → List α → World → Prop) (hI : OwnFrom w.heap.size I) (hIx : ∀ c, OwnFrom w.heap.size (Ix c)) (h0 : I [] w) (Ax : List α → α → Act → World → Prop) (hAx : ∀ pre x a' (W : World) (o : Loop) (o' : Obj), Ax pre x a' W → W.heap[w.heap.size + 1]? = some (.loop o) → Ax pre x a' (W.putObj (w.heap.size + 1) o'))
  (hassign : ∀ (l : Nat) (pre : List α) (x : α) (W : World) (K : Act → World → Prop), I pre W → G pre x W → (∀ a' W', KeepsFrom w.heap.size W W' → Kp W W' → I pre W' → Ax pre x a' W' → K a' W') →
   assign.wpIn (F.inRound l) (n - 1 - 1) P (Exit.then K (fun _ _ _ => False)) { tmps := (ps.zip (encs x)).foldl (fun t (p, v) => t.setIfInBounds p v) a.tmps, defers := [] } W)
  (hbody : ∀ (l : Nat) (pre : List α) (x : α) (a' : Act) (W : World), I pre W → Ax pre x a' W → pre.length < N → body.wpIn (F.inRound l) (n - 1 - 1) P (ownPostG w.heap.size Kp I Ix (pre ++ [x]) W) a' W)
  (hdone : ∀ (D : Nat) (xs : List α) (W : World), w.heap.size ≤ D → S xs → I xs W → W.heap[D]? = some (.deferred (some [])) → Q .normal { a with defers := { target := .collected D, args := #[] } :: a.defers } W)
  (hstop : ∀ (D : Nat) (c : Code) (pre : List α) (W : World), w.heap.size ≤ D → Sp pre → Ix c pre W → W.heap[D]? = some (.deferred (some [])) → c.wpIn F n P Q { a with defers := { target := .collected D, args := #[] } :: a.defers } W) :
  (Code.rangeFunc g ps assign body).wpIn F n P Q a w := by
 refine wpIn_rangeFunc ?_
 intro fn hfn
 rw [hro]
 obtain ⟨rec, hrec⟩ : ∃ rec : LoopState → Option Code → Loop, rec = fun st pe => { state := st, pending := pe, fn, tmps := a.tmps, params := ps, assign, body, defers := w.heap.size } := ⟨_, rfl⟩
 obtain ⟨W1, hW1⟩ : ∃ W1, (w.alloc (.deferred (some []))).alloc (.loop (rec .ready none)) = W1 := ⟨_, rfl⟩
 have hz1 : W1.heap.size = w.heap.size + 2 := by rw [← hW1]; simp
 have hL1 : W1.heap[w.heap.size + 1]? = some (.loop (rec .ready none)) := by
  rw [← hW1]; have := World.alloc_heap_new (w.alloc (.deferred (some []))) (.loop (rec .ready none)); rwa [World.size_alloc] at this
 have hK1 : W1.heap[w.heap.size]? = some (.deferred (some [])) := by
  rw [← hW1]; exact (Below.heap_alloc _ _ _ (by simp)).trans (World.alloc_heap_new w _)
 have hI1 : I [] W1 := by rw [← hW1]; exact hI.alloc _ (hI.alloc _ h0)
 have hb1 : Below w0.heap.size w0 W1 := by
  rw [← hW1]; exact hb0.trans ((((Below.refl _ w).alloc (Nat.le_refl _) _).alloc (by simp) _).mono hb0.size)
 have far : ∀ {A : World} {row : Option Nat}, (∀ r, row = some r → W1.heap.size ≤ r ∧ ∃ o : Obj, A.heap[r]? = some o ∧ o.isCells = false) → (∀ r, row = some r → w.heap.size ≤ r ∧ ∃ o : Obj, A.heap[r]? = some o ∧ o.isCells = false) :=
  fun hr r e => by obtain ⟨hB, o⟩ := hr r e; exact ⟨by omega, o⟩
 have still : ∀ {A B : World} {row : Option Nat} {k : Nat} {o : Obj}, A.grownBy B row → (∀ r, row = some r → W1.heap.size ≤ r ∧ ∃ o : Obj, A.heap[r]? = some o ∧ o.isCells = false) → k < w.heap.size + 2 → A.heap[k]? = some o → B.heap[k]? = some o :=
  fun {A B row k o} hg hr hk h => (hg.block k (gsl h) (fun e => by have := (hr k e.symm).1; omega)).trans h
 refine ⟨w.heap.size + 1, [{ target := .collected w.heap.size, args := #[] }], W1, { target := .fn (.func gf) lb, args := #[.func (.yield (w.heap.size + 1)) #[] #[]] }, W1, gf,
  #[.func (.yield (w.heap.size + 1)) #[] #[]] ++ lb, W1, ?_, ?_, ?_, ?_, fun _ => h1, ?_⟩
 ·rw [← hW1, hrec]; exact run_enterLoop_outer _ _ _ _ _
 ·simp only [resolve, hg]
  simp [go_sem]
 ·intro f' hf'; simp [Target.leads] at hf'; subst hf'; exact hFg
 ·simp [invoke, go_sem, eg]
 ·refine (hseq (w.heap.size + 1)
   (fun pre W => I pre W ∧ W.heap[w.heap.size + 1]? = some (.loop (rec .ready none)) ∧ W.heap[w.heap.size]? = some (.deferred (some [])))
   (fun pre W => ∃ c, Ix c pre W ∧ W.heap[w.heap.size + 1]? = some (.loop (rec .done (some c))) ∧ W.heap[w.heap.size]? = some (.deferred (some [])))
   W1 hb1
   (fun s A B row hs hg' hr => ⟨hI s A B row hs.1 hg' (far (A := A) hr), still hg' hr (by omega) hs.2.1, still hg' hr (by omega) hs.2.2⟩)
   (fun s A B row hs hg' hr => by
    obtain ⟨c, hc, hl, hk⟩ := hs
    exact ⟨c, hIx c s A B row hc hg' (far (A := A) hr), still hg' hr (by omega) hl, still hg' hr (by omega) hk⟩)
   ?_ ⟨hI1, hL1, hK1⟩).mono ?_
  ·rintro pre x W ⟨hi, hl, hk⟩ hg9 hlen
   have hlt : w.heap.size + 1 < W.heap.size := (gsl hl)
   have hy := run_yield (P := P) (args := encs x) hl (by rw [hrec]; exact hps x)
   rw [hrec] at hy
   refine ⟨fn, _, assign, body, hy, roundIn_of_wpIn hfn (hassign _ pre x W _ hi hg9 ?_)⟩
   clear hy
   intro a' Wa hkfa hkpa hia hax
   replace hl := hkfa.same _ _ (by omega) hl rfl
   replace hk := hkfa.same _ _ (Nat.le_refl _) hk rfl
   replace hlt : w.heap.size + 1 < Wa.heap.size := (gsl hl)
   have hka := keepsFrom_mono hkfa (B' := W1.heap.size) (by omega)
   refine ⟨_, run_beginRound hl (by rw [hrec]), ?_⟩
   have turn : ∀ (V : World) (o : Obj), KeepsFrom W1.heap.size V (V.putObj (w.heap.size + 1) o) := fun V o => KeepsFrom.of_grownBy (grownBy_putObj' V (w.heap.size + 1) o) (fun j e => by cases e; omega)
   have hl2 : (Wa.putObj (w.heap.size + 1) (.loop { rec .ready none with state := .busy })).heap[w.heap.size + 1]? = some (.loop { rec .ready none with state := .busy }) := World.putObj_heap_same hlt
   have hk2 : (Wa.putObj (w.heap.size + 1) (.loop { rec .ready none with state := .busy })).heap[w.heap.size]? = some (.deferred (some [])) := (World.putObj_heap_other (by omega)).trans hk
   have hw2 : Kp Wa (Wa.putObj (w.heap.size + 1) (.loop { rec .ready none with state := .busy })) := hKb _ _ _ _ (by omega) hl rfl rfl
   refine wpIn_mono (hbody _ pre x a' _ (hI.putObj _ hia (by omega) hl rfl) (hAx pre x a' _ _ _ hax hl) hlen) ?_
   have fin : ∀ (jump : Option Code) (W3 : World), KeepsFrom w.heap.size (Wa.putObj (w.heap.size + 1) (.loop { rec .ready none with state := .busy })) W3 →
     (Instr.endRound (w.heap.size + 1) jump).run P W3 = .ok (.bool jump.isNone) (W3.putObj (w.heap.size + 1) (.loop (rec (if jump.isNone then .ready else .done) jump))) ∧
     W3.heap[w.heap.size + 1]? = some (.loop { rec .ready none with state := .busy }) ∧
     (W3.putObj (w.heap.size + 1) (.loop (rec (if jump.isNone then .ready else .done) jump))).heap[w.heap.size + 1]? = some (.loop (rec (if jump.isNone then .ready else .done) jump)) ∧
     (W3.putObj (w.heap.size + 1) (.loop (rec (if jump.isNone then .ready else .done) jump))).heap[w.heap.size]? = some (.deferred (some [])) ∧
     KeepsFrom W1.heap.size W (W3.putObj (w.heap.size + 1) (.loop (rec (if jump.isNone then .ready else .done) jump))) := fun jump W3 hk3 => by
    have hl3 := hk3.same _ _ (by omega) hl2 rfl
    have := run_endRound (P := P) jump hl3
    rw [hrec] at this ⊢
    exact ⟨this, by rw [hrec] at hl3; exact hl3, World.putObj_heap_same (gsl hl3), (World.putObj_heap_other (by omega)).trans (hk3.same _ _ (Nat.le_refl _) hk2 rfl), ((hka.trans (turn _ _)).trans (keepsFrom_mono hk3 (by omega))).trans (turn _ _)⟩
   rintro e a3 W3 hp
   cases e with
   | normal =>
    obtain ⟨hk3, hkp3, hi3⟩ := hp
    obtain ⟨hr, hl3, hl4, hk4, hf4⟩ := fin none W3 hk3
    exact ⟨_, _, hr, hf4, .inl ⟨rfl, ⟨hI.putObj _ hi3 (by omega) hl3 rfl, hl4, hk4⟩, hKt hkpa (hKt (hKt hw2 hkp3) (hKb _ _ _ _ (by omega) hl3 rfl rfl))⟩⟩
   | ret =>
    obtain ⟨hk3, hi3⟩ := hp
    obtain ⟨hr, hl3, hl4, hk4, hf4⟩ := fin (some .ret) W3 hk3
    exact ⟨_, _, hr, hf4, .inr ⟨rfl, .ret, (hIx _).putObj _ hi3 (by omega) hl3 rfl, hl4, hk4⟩⟩
   | exit id =>
    obtain ⟨hk3, hi3⟩ := hp
    obtain ⟨hr, hl3, hl4, hk4, hf4⟩ := fin (some (.exit id)) W3 hk3
    exact ⟨_, _, hr, hf4, .inr ⟨rfl, .exit id, (hIx _).putObj _ hi3 (by omega) hl3 rfl, hl4, hk4⟩⟩
   | goto t =>
    obtain ⟨hk3, hi3⟩ := hp
    obtain ⟨hr, hl3, hl4, hk4, hf4⟩ := fin (some (.goto t)) W3 hk3
    exact ⟨_, _, hr, hf4, .inr ⟨rfl, .goto t, (hIx _).putObj _ hi3 (by omega) hl3 rfl, hl4, hk4⟩⟩
   | panic ch => exact hp.elim
   | outgrown => exact hp.elim
  ·rintro e W2 ⟨⟨v, rfl⟩, (⟨xs, hS, hi, hl, hk⟩ | ⟨pre, hSp, c, hi, hl, hk⟩)⟩
   ·exact ⟨none, _, by have := run_endLoop (P := P) hl (by rw [hrec]; simp); rw [hrec] at this; exact this, hdone _ xs _ (Nat.le_refl _) hS (hI.putObj _ hi (by omega) hl rfl) ((World.putObj_heap_other (by omega)).trans hk)⟩
   ·exact ⟨some c, _, by have := run_endLoop (P := P) hl (by rw [hrec]; simp); rw [hrec] at this; exact this, hstop _ c pre _ (Nat.le_refl _) hSp ((hIx c).putObj _ hi (by omega) hl rfl) ((World.putObj_heap_other (by omega)).trans hk)⟩
end Go.Proofs.YtphdalgaemefoaaGreat
namespace Go.Proofs.YtphdalgaemefoaaGreat
set_option maxRecDepth 100000
set_option maxHeartbeats 1000000
open Go.RowKit
set_option linter.unusedVariables false
def TagAt (t : TypeId) (w : World) (v : Value) : Prop := ∀ (a : Addr) (n c : Nat), v = .slice (some a) n c → ∃ cs, w.heap[a.block]? = some (.cells cs t)
theorem TagAt.le {t : TypeId} {w W : World} {v : Value} (h : TagAt t w v) (hb : Below w.heap.size w W) : TagAt t W v := fun a n c e => by
 obtain ⟨cs, hc⟩ := h a n c e
 exact ⟨cs, (hb.block _ (gsl hc)).trans hc⟩
theorem TagAt.of_own {w : World} {base e size n : Nat} {v : Value} {xs : List Value} (h : w.ownsRow base e size v n xs) : TagAt e w v := fun a k c q => by
 rcases h.2 with ⟨rfl, -⟩ | ⟨g, cap, cur, rfl, -, hg, -⟩
 ·cases q
 ·injection q with q1
  injection q1 with q1
  subst q1
  exact ⟨_, hg⟩
def SpT (w : World) (v : Value) (L : List Spn) : Prop := SpnL w v L ∧ TagAt 101 w v
theorem SpT.le {w W : World} {v : Value} {L : List Spn} (h : SpT w v L) (hb : Below w.heap.size w W) : SpT W v L := ⟨h.1.le hb, h.2.le hb⟩
theorem SpT.of_own {w : World} {base : Nat} {v : Value} {L : List Spn} (h : w.ownsRow base 101 2 v L.length (L.flatMap spnEnc)) : SpT w v L := ⟨SV.of_own (fun _ => rfl) h, TagAt.of_own h⟩
theorem SpT.nil (w : World) : SpT w (.slice none 0 0) [] := ⟨SV.nil _, fun a n c e => by cases e⟩
theorem SpT.turn {w W : World} {v : Value} {L : List Spn} {r : Nat} (h : SpT w v L) (hg : w.grownBy W (some r)) (hr : ∃ o : Obj, w.heap[r]? = some o ∧ o.isCells = false) : SpT W v L := by
 obtain ⟨⟨A, c, hv, h1, h2, hN, h3⟩, ht⟩ := h
 refine ⟨⟨A, c, hv, h1, h2, hN, fun h0 => ?_⟩, fun a n c e => ?_⟩
 ·obtain ⟨b, off, ha, hlt, hc⟩ := h3 h0
  refine ⟨b, off, ha, Nat.lt_of_lt_of_le hlt hg.size, fun j hj i u hu => ?_⟩
  obtain ⟨cs, hcs⟩ := ht ⟨b, off, none⟩ _ _ (by rw [hv, ha])
  have hbr : b ≠ r := fun e => by subst e; obtain ⟨o, ho, hw⟩ := hr; rw [hcs] at ho; cases ho; cases hw
  exact (World.cell?_of_block (hg.block b hlt (fun e => by injection e with e; exact hbr e))).trans (hc j hj i u hu)
 ·obtain ⟨cs, hcs⟩ := ht a n c e
  have hbr : a.block ≠ r := fun e => by obtain ⟨o, ho, hw⟩ := hr; rw [e, ho] at hcs; cases hcs; cases hw
  exact ⟨cs, (hg.block _ (gsl hcs) (fun e => by injection e with e; exact hbr e)).trans hcs⟩
end Go.Proofs.YtphdalgaemefoaaGreat
namespace Go.Proofs.YtphdalgaemefoaaGreat
set_option maxRecDepth 100000
set_option maxHeartbeats 1000000
open Go.RowKit
set_option linter.unusedVariables false
theorem cellOne {W : World} {B : Nat} {v : Value} {t : TypeId} (h : W.heap[B]? = some (.cells #[v] t)) : W.cell? ⟨B, 0, none⟩ = some v := by simp [World.cell?, h]
def srchT (t : TypeId) : Prop := t = 101 ∨ t = 97 ∨ t = 25 ∨ t = 91
structure KeepT (n₀ : Nat) (W W' : World) : Prop where
 below : Below n₀ W W'
 tag : ∀ (k : Nat) (cs : Array Value) (t : TypeId), W.heap[k]? = some (.cells cs t) → srchT t → W'.heap[k]? = some (.cells cs t)
theorem KeepT.refl (n₀ : Nat) (W : World) : KeepT n₀ W W := ⟨Below.refl _ _, fun _ _ _ h _ => h⟩
theorem KeepT.trans {n₀ : Nat} {A B C : World} (h : KeepT n₀ A B) (k : KeepT n₀ B C) : KeepT n₀ A C := ⟨h.below.trans k.below, fun i cs t hi ht => k.tag i cs t (h.tag i cs t hi ht) ht⟩
theorem KeepT.fresh {n₀ : Nat} {W W' : World} (h : Below W.heap.size W W') (hn : n₀ ≤ W.heap.size) : KeepT n₀ W W' := ⟨h.mono hn, fun k cs t hk _ => (h.block k (gsl hk)).trans hk⟩
theorem KeepT.of_grown {n₀ : Nat} {W W' : World} {g : Nat} (hg : W.grownBy W' (some g)) (hn : n₀ ≤ W.heap.size) (hb : n₀ ≤ g) (ho : ∀ (cs : Array Value) (t : TypeId), W.heap[g]? = some (.cells cs t) → ¬ srchT t) : KeepT n₀ W W' :=
 ⟨Below.grown (Below.refl _ _) hg hn (fun k e => by cases e; exact hb), fun k cs t hk ht => (hg.block k (gsl hk) (fun e => by injection e with e; subst e; exact ho cs t hk ht)).trans hk⟩
theorem KeepT.put {n₀ : Nat} {W : World} {l : Nat} {o : Obj} (o' : Obj) (hn : n₀ ≤ l) (hl : W.heap[l]? = some o) (ho : o.isCells = false) : KeepT n₀ W (W.putObj l o') :=
 KeepT.of_grown (grownBy_putObj' W l o') (Nat.le_trans hn (Nat.le_of_lt (gsl hl))) hn (fun cs t h => by rw [hl] at h; cases h; cases ho)
theorem KeepT.setCell {n₀ : Nat} {W : World} {g i : Nat} {cs : Array Value} {t : TypeId} (v : Value) (hn : n₀ ≤ g) (hg : W.heap[g]? = some (.cells cs t)) (ht : ¬ srchT t) : KeepT n₀ W (W.setCell ⟨g, i, none⟩ v) :=
 ⟨(Below.refl _ _).setCell (p := ⟨g, i, none⟩) hn v, fun k cs' t' hk ht' => by
  refine (Below.heap_setCell _ ⟨g, i, none⟩ _ k (fun e => ?_)).trans hk
  have e : k = g := e
  subst e
  rw [hg] at hk
  cases hk
  exact ht ht'⟩
theorem SpT.keep {n₀ : Nat} {w W : World} {v : Value} {L : List Spn} (h : SpT w v L) (hk : KeepT n₀ w W) : SpT W v L := by
 obtain ⟨⟨A, c, hv, h1, h2, hN, h3⟩, ht⟩ := h
 refine ⟨⟨A, c, hv, h1, h2, hN, fun h0 => ?_⟩, fun a n c e => ?_⟩
 ·obtain ⟨b, off, ha, hlt, hc⟩ := h3 h0
  obtain ⟨cs, hcs⟩ := ht ⟨b, off, none⟩ _ _ (by rw [hv, ha])
  refine ⟨b, off, ha, Nat.lt_of_lt_of_le hlt hk.below.size, fun j hj i u hu => ?_⟩
  have hcs2 := hk.tag _ _ _ hcs (.inl rfl)
  exact (World.cell?_of_block (a := ⟨b, off + j * 2 + i, none⟩) (show W.heap[b]? = w.heap[b]? from hcs2.trans hcs.symm)).trans (hc j hj i u hu)
 ·obtain ⟨cs, hcs⟩ := ht a n c e
  exact ⟨cs, hk.tag _ _ _ hcs (.inl rfl)⟩
theorem Bases.keep {n₀ B0 : Nat} {w W : World} {B n : Nat} {D : DataW Unit} {bl : Int → Nat} {Z len : Nat} {cs : Int → Bool} {row : Int → List Spn} (h : Bases w B n D bl Z len cs row) (hk : KeepT n₀ w W) (hf : KeepsFrom B0 w W) (hB : B0 ≤ B) : Bases W B n D bl Z len cs row := by
 refine ⟨?_, h.has, h.wf, h.get, fun c hc => ⟨(h.blk c hc).1, hk.tag _ _ _ (h.blk c hc).2 (.inl rfl)⟩, h.len, h.apart⟩
 obtain ⟨es, cl, h1, h2⟩ := h.own
 exact ⟨es, cl, hf.same B _ hB h1 rfl, h2⟩
theorem roundIn_any {F : Fence} (hd : F.depth = none) {m m' : Nat} {P : Program} {l : Nat} {f : FuncId} {tmps : Array Value} {assign body : Code} {w : World} {R : Ending → World → Prop}
  (h : RoundIn F m P l f tmps assign body w R) : RoundIn F m' P l f tmps assign body w R := ⟨h.1, fun c cs _ => h.2 c cs (fun d h => by rw [hd] at h; cases h)⟩
theorem OwnFrom.wider {β : Type} {B B' : Nat} {I : β → World → Prop} (h : OwnFrom B I) (hB : B ≤ B') : OwnFrom B' I := fun s W W' row hs hg hr => h s W W' row hs hg (fun r e => ⟨Nat.le_trans hB (hr r e).1, (hr r e).2⟩)
theorem ownFrom_below' {β : Type} {B n₀ : Nat} {w : World} (h : n₀ ≤ B) (hs : n₀ ≤ w.heap.size) : OwnFrom B (fun (_ : β) W => Below n₀ w W) := fun s W W' row hb hg hr => Below.grown hb hg (Nat.le_trans hs hb.size) (fun k e => Nat.le_trans h (hr k e).1)
theorem ownFrom_keepT {β : Type} {B n₀ : Nat} {w : World} (h : n₀ ≤ B) (hs : n₀ ≤ w.heap.size) : OwnFrom B (fun (_ : β) W => KeepT n₀ w W) := fun s W W' row hb hg hr => by
 refine hb.trans ⟨Below.grown (Below.refl _ _) hg (Nat.le_trans hs hb.below.size) (fun k e => Nat.le_trans h (hr k e).1), fun k cs t hk ht => (hg.block k (gsl hk) (fun e => ?_)).trans hk⟩
 obtain ⟨-, o, ho, hc⟩ := hr k e.symm
 rw [hk] at ho
 cases ho
 cases hc
end Go.Proofs.YtphdalgaemefoaaGreat
namespace Go.Proofs.YtphdalgaemefoaaGreat
set_option maxRecDepth 100000
set_option maxHeartbeats 1000000
open Go.RowKit Go.Shelf
set_option linter.unusedVariables false
set_option linter.unusedSimpArgs false
attribute [local go_sem] Oper.semAt_some
def biEnc (x : Nat × Int) : Array Value := #[.int .i64 (x.1 : Int), .int .i64 x.2]
theorem backInts_yields (N q off c : Nat) (l : List Int) (w : World) (Bn n₀ : Nat) (hN : N ≤ 1000000) (hl : l.length = N) (hBn : Bn < w.heap.size) (hn₀ : n₀ ≤ w.heap.size) (hq : q < w.heap.size) (hr : ∀ k (h : k < l.length), w.cell? ⟨q, off + k, none⟩ = some (.int .i64 l[k]))
  (hc : w.cell? ⟨Bn, 0, none⟩ = some (.slice (some ⟨q, off, none⟩) N c)) (hNc : N ≤ c) :
  SeqO Fence.wide 4 Tryz.prog 59 #[.pointer (some ⟨Bn, 0, none⟩)] biEnc (fun pre x _ => x.1 + pre.length + 1 = N) (Kept n₀ [Bn, q]) (fun xs => xs.length = N) (fun _ => True) N w := by
 intro l9 J Jx W hW hJo hJxo hY hJ0
 have hc' := (hW.cell (p := ⟨Bn, 0, none⟩) hBn).trans hc
 have hr0 : ∀ k (h : k < l.length), W.cell? ⟨q, off + k, none⟩ = some (.int .i64 l[k]) := fun k hk => (hW.cell (p := ⟨q, off + k, none⟩) hq).trans (hr k hk)
 have ⟨hr', hY', hJo'⟩ := hyd3 hr0 hY hJo
 clear hr hr0 hY hJo hJxo hW
 refine callsIn_of_wp Tryz.func59 rfl trivial ?_ rfl
 simp only [Tryz.ntmps59, List.size_toArray, List.length_cons, List.length_nil, Nat.reduceAdd, Nat.reduceSub, Array.replicate_succ, Array.replicate_zero, List.push_toArray, List.append_toArray, List.nil_append, List.cons_append]
 gi_wp2
 gi_loopw [3] (fun i wr => ∃ (k : Nat) (ys : List (Nat × Int)), k ≤ N ∧ i = .int .i64 ((N : Int) - 1 - k) ∧ ys.length = k ∧ J ys wr ∧ Kept n₀ [Bn, q] W wr)
  (fun i _ => (intOf i + 1).toNat)
 case atStart => exact ⟨0, [], Nat.zero_le _, by go_num, rfl, hJ0, Kept.refl _ _ _⟩
 case round =>
  obtain ⟨k, ys, hk, rfl, hys, hJs, hnx⟩ := hrel
  by_cases hlt : k < N
  ·obtain ⟨m, hm⟩ : ∃ m : Nat, N = k + m + 1 := ⟨N - k - 1, by omega⟩
   have hmi : (N : Int) - 1 - (k : Int) = (m : Int) := by omega
   rw [hmi]
   have hml : m < l.length := by omega
   have hck := (hnx.cell (B := q) (i := off + m) (by simp)).trans (hr'.out m hml)
   obtain ⟨x, hx⟩ : ∃ x, l[m] = x := ⟨_, rfl⟩
   rw [hx] at hck
   have hcv := (hnx.cell (B := Bn) (i := 0) (by simp)).trans hc'
   obtain ⟨fn, tmps, assign, body, hy, hR⟩ := hY'.out ys (m, x) wr hJs (by show m + ys.length + 1 = N; omega) (by omega)
   dsimp only [biEnc] at hy
   have j1 : (m : Int) < (N : Int) := by omega
   have j2 : (0 : Int) ≤ (m : Int) := by omega
   have ⟨hmi', hm', hys', hx'⟩ := hyd4 hmi hm hys hx
   clear hx hys hm hmi
   gi_wp2
   refine hR.mono ?_
   rintro e W3 ⟨hkf, (⟨rfl, hJ3, hk3⟩ | ⟨rfl, hJx3⟩)⟩
   ·have hkf' := hyd1 hkf
    clear hkf
    gi_wp2
    go_roundw
    case rel => exact ⟨k + 1, _, by omega, by have := hmi'.out; go_num, by rw [List.length_append, hys'.out]; rfl, hJ3, hnx.trans hk3⟩
    case measure => simp [intOf]
   ·gi_wp2
    refine bodyPost_ret (results_none rfl _ _ _) rfl ?_
    exact ⟨⟨_, rfl⟩, .inr ⟨_, trivial, hJx3⟩⟩
  ·obtain rfl : k = N := by omega
   have hmi : (k : Int) - 1 - (k : Int) = -1 := by omega
   rw [hmi]
   have hys' := hyd1 hys
   clear hys
   gi_wp2
   go_end0
   exact ⟨⟨_, rfl⟩, .inl ⟨_, hys'.out, hJs⟩⟩
theorem pf_backInts (A : Option Addr) (n c : Nat) (w : World) :
  Calls Tryz.prog 36 #[.slice A n c] w fun e w' => e = .returned (.func (.func 59) #[] #[.pointer (some ⟨w.heap.size, 0, none⟩)]) ∧ w.alloc (.cells #[.slice A n c] 36) = w' := by
 have hmf : ∀ (fn : Fn) (first cap : Array Value) (w : World), (Instr.makeFunc fn first cap).run Tryz.prog w = .ok (.func fn first cap) w := fun _ _ _ _ => rfl
 go_enter Tryz.func36, Tryz.ntmps36
 go_wp2
 go_ret
 exact ⟨rfl, rfl⟩
end Go.Proofs.YtphdalgaemefoaaGreat
