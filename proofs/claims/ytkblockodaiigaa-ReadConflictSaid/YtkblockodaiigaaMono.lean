/- A region that draws its order, whose operations only make memory: each operation is shown once, in any later world, from what is known of the results that it looks at; what is known of a result stays known in every later world. One goal for each operation, whatever the number of orders. -/
import Derived.Test.YtkblockodaiigaaBase
namespace Go.Proofs.Ytkblockodaiigaa
set_option maxRecDepth 100000
open Go.RowKit
set_option linter.unusedVariables false
def Le (w w' : World) : Prop := Below w.heap.size w w'
theorem Le.refl (w : World) : Le w w := Below.refl _ _
theorem Le.trans {a b c : World} (h : Le a b) (k : Le b c) : Le a c := Below.tr h k
theorem Le.drew {w : World} : Le w ({ w with drawn := w.drawn + 1 } : World) := Below.drew (Below.refl _ _)
structure WRel where
 r : World → World → Prop
 refl : ∀ w, r w w
 trans : ∀ {a b c}, r a b → r b c → r a c
 drew : ∀ w : World, r w { w with drawn := w.drawn + 1 }
def leRel : WRel := ⟨Le, Le.refl, Le.trans, fun _ => Le.drew⟩
theorem lrR {W : World} : leRel.r W W := Le.refl W
structure MPredR (R : WRel) where
 p : Value → World → Prop
 mono : ∀ v w w', R.r w w' → p v w → p v w'
abbrev MPred := MPredR leRel
def MPredR.any {R : WRel} : MPredR R := ⟨fun _ _ => True, fun _ _ _ _ h => h⟩
def MPredR.eq {R : WRel} (c : Value) : MPredR R := ⟨fun v _ => v = c, fun _ _ _ _ h => h⟩
def stOp (P : Program) (ops : Array Oper) (Q : Exit → Act → World → Prop) (i : Nat) (K : Act → World → Prop) (a : Act) (w : World) : Prop :=
 match ops[i]? with
 | none => K a w
 | some o => if Region.wanted o (yielded ops a.tmps) then o.wp P a w K Q else K (a.put o.dst undef) w
def stAny (P : Program) (md : Region.Mode) (ops : Array Oper) (Q : Exit → Act → World → Prop) : Nat → Array Bool → Act → World → Prop
 | 0, listed, a, w => Region.ready md ops listed = [] ∧ Q .normal a w
 | fuel + 1, listed, a, w => (Region.ready md ops listed = [] → Q .normal a w) ∧ ∀ i ∈ Region.ready md ops listed, stOp P ops Q i (stAny P md ops Q fuel (listed.setIfInBounds i true)) a w
theorem stOp_mono {P : Program} {ops : Array Oper} {Q : Exit → Act → World → Prop} {i : Nat} {K K' : Act → World → Prop} {a : Act} {w : World} (h : ∀ a w, K a w → K' a w) (hh : stOp P ops Q i K a w) : stOp P ops Q i K' a w := by
 unfold stOp at *
 split
 ·rename_i ho; simp only [ho] at hh; exact h _ _ hh
 ·rename_i o ho
  simp only [ho] at hh
  split
  ·rename_i hw; simp only [hw, if_true] at hh; exact Oper.wp_mono h hh
  ·rename_i hw; simp only [hw] at hh; exact h _ _ hh
theorem wpAny_of_st {P : Program} {md : Region.Mode} {ops : Array Oper} {Q : Exit → Act → World → Prop} : ∀ (fuel : Nat) (listed : Array Bool) (a : Act) (w : World), stAny P md ops Q fuel listed a w → wpAny P md ops Q fuel listed a w
 | 0, _, _, _, h => h
 | fuel + 1, listed, a, w, h => ⟨h.1, fun i hi => by
   have h2 := stOp_mono (fun a' w' => wpAny_of_st fuel _ a' w') (h.2 i hi)
   unfold stOp at h2
   unfold wpOp
   split
   ·rename_i ho; simp only [ho] at h2; exact h2
   ·rename_i o ho
    simp only [ho] at h2
    split
    ·rename_i hw; simp only [hw, if_true] at h2; exact .inl h2
    ·rename_i hw; simp only [hw] at h2; exact h2⟩
def tailGoal (P : Program) (Q : Exit → Act → World → Prop) (a : Act) (W : World) : List Oper → Prop
 | [] => Q .normal a W
 | o :: _ => o.guard = none ∧ o.wp P a W (Q .normal) Q
section
variable {R : WRel} {P : Program} {ops : Array Oper} {dsts : List (Option Tmp)} {Φs : List (MPredR R)} {PΦ : List PanicEntry → World → Prop}
def fact (Φs : List (MPredR R)) (x : Nat → Value) (W : World) (j : Nat) : Prop := (Φs.getD j MPredR.any).p (x j) W
theorem fact.le {x : Nat → Value} {W W' : World} {j : Nat} (h : fact Φs x W j) (k : R.r W W') : fact Φs x W' j := (Φs.getD j MPredR.any).mono _ _ _ k h
def factsOn (Φs : List (MPredR R)) (x : Nat → Value) (W : World) : List Nat → Prop
 | [] => True
 | j :: js => fact Φs x W j ∧ factsOn Φs x W js
theorem factsOn_of {x : Nat → Value} {W : World} : ∀ {js : List Nat}, (∀ j ∈ js, fact Φs x W j) → factsOn Φs x W js
 | [], _ => trivial
 | j :: js, h => ⟨h j (by simp), factsOn_of fun i hi => h i (by simp [hi])⟩
def fA0 (dsts : List (Option Tmp)) (x : Nat → Value) : List Nat → Act → Act
 | [], a => a
 | j :: js, a => fA0 dsts x js (a.put (dsts.getD j none) (x j))
theorem fA : (∀ dsts x a, fA0 dsts x [] a = a) ∧ (∀ dsts x j js a, fA0 dsts x (j :: js) a = fA0 dsts x js (a.put (dsts.getD j none) (x j))) ∧ (∀ (a : Act) (d : Tmp) (v : Value), a.put (some d) v = { a with tmps := a.tmps.setIfInBounds d v }) ∧ (∀ (a : Act) (v : Value), a.put none v = a) ∧
  (∀ {α : Type} {x : α} {xs : List α} {n : Nat} {d : α}, (x :: xs).getD (n + 1) d = xs.getD n d) ∧ (∀ {α : Type} {x : α} {xs : List α} {d : α}, (x :: xs).getD 0 d = x) ∧ (∀ {α : Type} (l : List α) (i : Nat) (a : α), l.toArray.setIfInBounds i a = (l.set i a).toArray) ∧
  (∀ {α : Type} {x : α} {xs : List α} {i : Nat} {a : α}, (x :: xs).set (i + 1) a = x :: xs.set i a) ∧ (∀ {α : Type} {x : α} {xs : List α} {a : α}, (x :: xs).set 0 a = a :: xs) :=
 ⟨fun _ _ _ => rfl, fun _ _ _ _ _ => rfl, fun _ _ _ => rfl, fun _ _ => rfl, List.getD_cons_succ, List.getD_cons_zero, List.setIfInBounds_toArray, List.set_cons_succ, List.set_cons_zero⟩
def noSel (o : Oper) : Bool := match o.op with | Op.select .. => false | _ => true
def monoB (ops : Array Oper) (n : Nat) (dsts : List (Option Tmp)) (deps : List (List Nat)) : Bool :=
 decide (dsts.length = ops.size) && (List.range ops.size).all fun i =>
  match ops[i]? with
  | none => false
  | some (o : Oper) =>
   noSel o && (o.dst == dsts.getD i none) &&
   (match o.dst with | some d => decide (d < n) && (List.range ops.size).all fun j => j == i || dsts.getD j none != some d | none => true) &&
   ((List.range ops.size).filter fun j => match dsts.getD j none with | some d => (o.looksAt ops).contains d | none => false) == deps.getD i [] &&
   ((deps.getD i []).all fun j => o.after.any fun e => Region.binds .any e && e.on == j) &&
   (o.after.all fun e => !Region.binds .any e || decide (e.on < i))
structure MonoOk (ops : Array Oper) (n : Nat) (dsts : List (Option Tmp)) (deps : List (List Nat)) : Prop where
 len : dsts.length = ops.size
 sel : ∀ (i : Nat) (o : Oper), ops[i]? = some o → ∀ cs b, o.op ≠ .select cs b
 dst : ∀ (i : Nat) (o : Oper), ops[i]? = some o → o.dst = dsts.getD i none
 inn : ∀ (i : Nat) (o : Oper) (d : Tmp), ops[i]? = some o → o.dst = some d → d < n
 one : ∀ i j d, i < ops.size → j < ops.size → dsts.getD i none = some d → dsts.getD j none = some d → i = j
 looks : ∀ (i : Nat) (o : Oper), ops[i]? = some o → ∀ j d, j < ops.size → dsts.getD j none = some d → d ∈ o.looksAt ops → j ∈ deps.getD i []
 dep : ∀ (i : Nat) (o : Oper), ops[i]? = some o → ∀ j ∈ deps.getD i [], j < ops.size ∧ (∃ d, dsts.getD j none = some d) ∧ ∃ e ∈ o.after, Region.binds .any e = true ∧ e.on = j
 back : ∀ (i : Nat) (o : Oper), ops[i]? = some o → ∀ e ∈ o.after, Region.binds .any e = true → e.on < i
theorem monoB_ok {n : Nat} {deps : List (List Nat)} (h : monoB ops n dsts deps = true) : MonoOk ops n dsts deps := by
 unfold monoB at h
 simp only [Bool.and_eq_true, decide_eq_true_eq, List.all_eq_true, List.mem_range] at h
 obtain ⟨hlen, h⟩ := h
 have hat : ∀ (i : Nat) (o : Oper), ops[i]? = some o → i < ops.size := fun i o ho => (gsl ho)
 have H : ∀ (i : Nat) (o : Oper), ops[i]? = some o → ((((((noSel o) = true ∧ (o.dst == dsts.getD i none) = true) ∧
   (match o.dst with | some d => decide (d < n) && (List.range ops.size).all fun j => j == i || dsts.getD j none != some d | none => true) = true) ∧
   (((List.range ops.size).filter fun j => match dsts.getD j none with | some d => (o.looksAt ops).contains d | none => false) == deps.getD i []) = true) ∧
   (∀ j ∈ deps.getD i [], (o.after.any fun e => Region.binds .any e && e.on == j) = true)) ∧
   (o.after.all fun e => !Region.binds .any e || decide (e.on < i)) = true) := by
  intro i o ho
  have := h i (hat i o ho)
  rw [ho] at this
  simpa only [Bool.and_eq_true, List.all_eq_true] using this
 refine ⟨hlen, ?_, ?_, ?_, ?_, ?_, ?_, ?_⟩
 ·intro i o ho cs b hs
  have := (H i o ho).1.1.1.1.1
  unfold noSel at this
  rw [hs] at this
  cases this
 ·intro i o ho
  simpa using (H i o ho).1.1.1.1.2
 ·intro i o d ho hd
  have := (H i o ho).1.1.1.2
  rw [hd] at this
  simp only [Bool.and_eq_true, decide_eq_true_eq] at this
  exact this.1
 ·intro i j d hi hj h1 h2
  obtain ⟨o, ho⟩ : ∃ o, ops[i]? = some o := ⟨ops[i], Array.getElem?_eq_getElem hi⟩
  have e1 : o.dst = dsts.getD i none := by simpa using (H i o ho).1.1.1.1.2
  have := (H i o ho).1.1.1.2
  rw [e1, h1] at this
  simp only [Bool.and_eq_true, List.all_eq_true, List.mem_range] at this
  have := this.2 j hj
  rw [h2] at this
  simpa using (by simpa using this : j = i).symm
 ·intro i o ho j d hj hd hl
  have := (H i o ho).1.1.2
  have e : (List.range ops.size).filter (fun j => match dsts.getD j none with | some d => (o.looksAt ops).contains d | none => false) = deps.getD i [] := by simpa using this
  rw [← e, List.mem_filter]
  refine ⟨List.mem_range.2 hj, ?_⟩
  rw [hd]
  simpa using hl
 ·intro i o ho j hj
  have e0 := (H i o ho).1.1.2
  have e : (List.range ops.size).filter (fun j => match dsts.getD j none with | some d => (o.looksAt ops).contains d | none => false) = deps.getD i [] := by simpa using e0
  have hjs : j < ops.size ∧ ∃ d, dsts.getD j none = some d := by
   rw [← e, List.mem_filter] at hj
   refine ⟨List.mem_range.1 hj.1, ?_⟩
   cases hd : dsts.getD j none with
   | some d => exact ⟨d, rfl⟩
   | none =>
    have := hj.2
    rw [hd] at this
    cases this
  have := (H i o ho).1.2 j hj
  rw [Array.any_eq_true'] at this
  obtain ⟨e, he, hb⟩ := this
  simp only [Bool.and_eq_true, beq_iff_eq] at hb
  exact ⟨hjs.1, hjs.2, e, he, hb.1, hb.2⟩
 ·intro i o ho e he hb
  have := (H i o ho).2
  rw [Array.all_eq_true'] at this
  have := this e he
  rw [hb] at this
  simpa using this
def monoStep (P : Program) (ops : Array Oper) (a0 : Act) (w : World) (dsts : List (Option Tmp)) (Φs : List (MPredR R)) (PΦ : List PanicEntry → World → Prop) (deps : List Nat) (i : Nat) (o : Oper) : Prop :=
 ∀ (x : Nat → Value) (W : World), R.r w W → factsOn Φs x W deps →
  if Region.wanted o (yielded ops (fA0 dsts x deps a0).tmps) then
   ∀ K : Act → World → Prop, (∀ v W', R.r W W' → (Φs.getD i MPredR.any).p v W' → K ((fA0 dsts x deps a0).put o.dst v) W') →
    o.wp P (fA0 dsts x deps a0) W K (fun e _ W' => ∃ ch, e = .panic ch ∧ R.r w W' ∧ PΦ ch W')
  else (Φs.getD i MPredR.any).p undef W
def monoSteps (P : Program) (ops : Array Oper) (a0 : Act) (w : World) (dsts : List (Option Tmp)) (Φs : List (MPredR R)) (PΦ : List PanicEntry → World → Prop) : List Oper → List (List Nat) → Nat → Prop
 | [], _, _ => True
 | o :: os, [], i => False
 | o :: os, d :: ds, i => monoStep P ops a0 w dsts Φs PΦ d i o ∧ monoSteps P ops a0 w dsts Φs PΦ os ds (i + 1)
theorem monoSteps_get {a0 : Act} {w : World} : ∀ {os : List Oper} {deps : List (List Nat)} {k : Nat}, monoSteps P ops a0 w dsts Φs PΦ os deps k → ∀ i o, os[i]? = some o → monoStep P ops a0 w dsts Φs PΦ (deps.getD i []) (k + i) o
 | [], _, _, _, i, o, ho => by simp at ho
 | o' :: os, [], k, h, i, o, ho => h.elim
 | o' :: os, d :: ds, k, h, 0, o, ho => by
  simp only [List.getElem?_cons_zero, Option.some.injEq] at ho
  subst ho
  exact h.1
 | o' :: os, d :: ds, k, h, i + 1, o, ho => by
  have := monoSteps_get h.2 i o (by simpa using ho)
  rw [show k + 1 + i = k + (i + 1) by omega] at this
  simpa using this
theorem put_get (a : Act) (dst : Option Tmp) (v : Value) (t : Tmp) : (a.put dst v).tmps[t]? = if dst = some t ∧ t < a.tmps.size then some v else a.tmps[t]? := by
 cases dst with
 | none => simp [Act.put]
 | some d =>
  simp only [Act.put, Array.getElem?_setIfInBounds, Option.some.injEq]
  by_cases h : d = t
  ·subst h
   by_cases h2 : d < a.tmps.size
   ·simp [h2]
   ·simp [h2]
  ·simp [h]
theorem put_size (a : Act) (dst : Option Tmp) (v : Value) : (a.put dst v).tmps.size = a.tmps.size := by cases dst <;> simp [Act.put]
theorem put_defers (a : Act) (dst : Option Tmp) (v : Value) : (a.put dst v).defers = a.defers := by cases dst <;> rfl
theorem fill_size (x : Nat → Value) : ∀ (js : List Nat) (a : Act), (fA0 dsts x js a).tmps.size = a.tmps.size
 | [], a => rfl
 | j :: js, a => by rw [fA0, fill_size x js, put_size]
theorem fill_defers (x : Nat → Value) : ∀ (js : List Nat) (a : Act), (fA0 dsts x js a).defers = a.defers
 | [], a => rfl
 | j :: js, a => by rw [fA0, fill_defers x js, put_defers]
theorem fill_other (x : Nat → Value) (t : Tmp) : ∀ (js : List Nat) (a : Act), (∀ j ∈ js, dsts.getD j none ≠ some t) → (fA0 dsts x js a).tmps[t]? = a.tmps[t]?
 | [], a, _ => rfl
 | j :: js, a, h => by
  rw [fA0, fill_other x t js _ fun k hk => h k (by simp [hk]), put_get, if_neg fun hh => h j (by simp) hh.1]
theorem fill_own (x : Nat → Value) (t : Tmp) (j0 : Nat) (hd : dsts.getD j0 none = some t) : ∀ (js : List Nat) (a : Act), t < a.tmps.size → (∀ j ∈ js, dsts.getD j none = some t → j = j0) → (a.tmps[t]? = some (x j0) ∨ j0 ∈ js) → (fA0 dsts x js a).tmps[t]? = some (x j0)
 | [], a, _, _, h => by
  rcases h with h | h
  ·exact h
  ·simp at h
 | j :: js, a, ht, hu, h => by
  rw [fA0]
  refine fill_own x t j0 hd js _ (by rw [put_size]; exact ht) (fun k hk => hu k (by simp [hk])) ?_
  by_cases hj : j = j0
  ·subst hj
   left
   rw [put_get, if_pos ⟨hd, ht⟩]
  ·rcases h with h | h
   ·left
    rw [put_get, if_neg fun hh => hj (hu j (by simp) hh.1)]
    exact h
   ·rcases List.mem_cons.1 h with h | h
    ·exact absurd h.symm hj
    ·exact .inr h
structure MInv (ops : Array Oper) (a0 : Act) (w : World) (dsts : List (Option Tmp)) (Φs : List (MPredR R)) (m : Nat) (listed : Array Bool) (x : Nat → Value) (a : Act) (W : World) : Prop where
 ls : listed.size = ops.size
 size : a.tmps.size = a0.tmps.size
 defers : a.defers = a0.defers
 done : ∀ j d, j < m → listed.getD j true = true → dsts.getD j none = some d → a.tmps[d]? = some (x j)
 rest : ∀ t, (∀ j, j < m → listed.getD j true = true → dsts.getD j none ≠ some t) → a.tmps[t]? = a0.tmps[t]?
 fact : ∀ j, j < m → listed.getD j true = true → fact Φs x W j
 tail : m < ops.size → listed.getD m true = false
 le : R.r w W
 closed : ∀ (j : Nat) (o : Oper), ops[j]? = some o → listed.getD j true = true → ∀ e ∈ o.after, Region.binds .any e = true → listed.getD e.on true = true
theorem countP_less {p q : Nat → Bool} : ∀ {l : List Nat}, (∀ j ∈ l, q j = true → p j = true) → ∀ i ∈ l, p i = true → q i = false → l.countP q < l.countP p
 | [], _, i, hi, _, _ => by simp at hi
 | j :: l, h, i, hi, h1, h2 => by
  have hle : ∀ {l : List Nat}, (∀ j ∈ l, q j = true → p j = true) → l.countP q ≤ l.countP p := fun h => List.countP_mono_left h
  rcases List.mem_cons.1 hi with rfl | hi
  ·rw [List.countP_cons, List.countP_cons, h1, h2]
   have := hle (l := l) fun k hk => h k (by simp [hk])
   simp
   omega
  ·have := countP_less (fun k hk => h k (by simp [hk])) i hi h1 h2
   rw [List.countP_cons, List.countP_cons]
   have h3 := h j (by simp)
   by_cases h4 : q j = true
   ·rw [h4, h3 h4]; simp; omega
   ·simp [h4]; split <;> omega
theorem upon_mono {o : Oper} {a b : Act} {W w : World} {K : Act → World → Prop} {Q : Exit → Act → World → Prop} (hab : a.defers = b.defers) (hsz : a.tmps.size = b.tmps.size) (hin : ∀ d, o.dst = some d → d < b.tmps.size) {φ : Value → World → Prop} (r : Result Next)
  (hK : ∀ v W', R.r W W' → φ v W' → K (a.put o.dst v) W') (hQ : ∀ ch W', R.r w W' → PΦ ch W' → Q (.panic ch) a W')
  (h : o.upon P b (fun a' W' => a'.defers = b.defers ∧ R.r W W' ∧ (∀ d, o.dst = some d → ∃ v, a'.tmps[d]? = some v ∧ φ v W') ∧ (o.dst = none → ∃ v, φ v W')) (fun e _ W' => ∃ ch, e = .panic ch ∧ R.r w W' ∧ PΦ ch W') r) : o.upon P a K Q r := by
 have hput : ∀ v W', ((b.put o.dst v).defers = b.defers ∧ R.r W W' ∧ (∀ d, o.dst = some d → ∃ u, (b.put o.dst v).tmps[d]? = some u ∧ φ u W') ∧ (o.dst = none → ∃ v, φ v W')) → K (a.put o.dst v) W' := by
  rintro v W' ⟨-, h2, h3, h4⟩
  cases hd : o.dst with
  | none =>
   obtain ⟨u, hu⟩ := h4 hd
   have := hK u W' h2 hu
   rw [hd] at this
   exact this
  | some d =>
   rw [← hd]
   refine hK v W' h2 ?_
   obtain ⟨u, hu, hp⟩ := h3 d hd
   rw [put_get, if_pos ⟨hd, hin d hd⟩] at hu
   cases hu
   exact hp
 cases r with
 | ok n w' =>
  cases n <;> simp only [Oper.upon] at h ⊢
  case value v => exact hput _ _ h
  case skip => exact hput _ _ h
  case defer d =>
   have := h.1
   rw [put_defers] at this
   simp at this
  case enter f args =>
   refine Calls.mono h fun e w'' he => ?_
   cases e with
   | returned v => exact hput _ _ he
   | panicked ch =>
    obtain ⟨ch', e1, h1, h2⟩ := he
    cases e1
    exact hQ _ _ h1 h2
   | outgrown =>
    obtain ⟨_, _, ch', e1, _⟩ := he
    cases e1
  case row row args => exact Rows.mono h fun v w'' he => hput _ _ he
 | halt x w' =>
  cases x <;> simp only [Oper.upon] at h ⊢
  case panic v =>
   obtain ⟨ch', e1, h1, h2⟩ := h
   cases e1
   exact hQ _ _ h1 h2
structure TailOk (ops : Array Oper) (m : Nat) : Prop where
 le : m ≤ ops.size
 one : ops.size ≤ m + 1
 sink : m < ops.size → ∀ i, i < m → ∃ j o, j ≤ m ∧ i < j ∧ ops[j]? = some o ∧ ∃ e ∈ o.after, Region.binds .any e = true ∧ e.on = i
def tailB (ops : Array Oper) (m : Nat) : Bool :=
 decide (m ≤ ops.size) && decide (ops.size ≤ m + 1) && (decide (m = ops.size) || (List.range m).all fun i => (List.range (m + 1)).any fun j => decide (i < j) && match ops[j]? with | some o => o.after.any fun e => Region.binds .any e && e.on == i | none => false)
theorem tailB_ok {m : Nat} (h : tailB ops m = true) : TailOk ops m := by
 unfold tailB at h
 simp only [Bool.and_eq_true, decide_eq_true_eq] at h
 obtain ⟨⟨h1, h2⟩, h3⟩ := h
 refine ⟨h1, h2, fun hlt i hi => ?_⟩
 rw [decide_eq_false (by omega : ¬ m = ops.size), Bool.false_or, List.all_eq_true] at h3
 have h4 := h3 i (List.mem_range.2 hi)
 rw [List.any_eq_true] at h4
 obtain ⟨j, hj, hc⟩ := h4
 simp only [Bool.and_eq_true, decide_eq_true_eq] at hc
 obtain ⟨hij, hc⟩ := hc
 have hjm := List.mem_range.1 hj
 refine ⟨j, ops[j]'(by omega), by omega, hij, Array.getElem?_eq_getElem _, ?_⟩
 rw [Array.getElem?_eq_getElem (by omega)] at hc
 simp only [Array.any_eq_true'] at hc
 obtain ⟨e, he, hb⟩ := hc
 simp only [Bool.and_eq_true, beq_iff_eq] at hb
 exact ⟨e, he, hb.1, hb.2⟩
theorem mono_any {a0 : Act} {w : World} {Q : Exit → Act → World → Prop} {deps : List (List Nat)} {m : Nat} (ok : MonoOk ops a0.tmps.size dsts deps) (tl : TailOk ops m)
  (hsteps : ∀ (i : Nat) (o : Oper), i < m → ops[i]? = some o → monoStep P ops a0 w dsts Φs PΦ (deps.getD i []) i o)
  (hpan : ∀ (a : Act) ch W, a.defers = a0.defers → R.r w W → PΦ ch W → Q (.panic ch) a W)
  (hend : ∀ x W, R.r w W → (∀ j, j < m → fact Φs x W j) → if m < ops.size then stOp P ops Q m (Q .normal) (fA0 dsts x (List.range m) a0) W else Q .normal (fA0 dsts x (List.range m) a0) W) :
  ∀ (fuel : Nat) (listed : Array Bool) (x : Nat → Value) (a : Act) (W : World), MInv ops a0 w dsts Φs m listed x a W → (List.range ops.size).countP (fun i => !listed.getD i true) ≤ fuel → stAny P .any ops Q fuel listed a W := by
 intro fuel
 have hfin : ∀ (listed : Array Bool) (x : Nat → Value) (a : Act) (W : World), MInv ops a0 w dsts Φs m listed x a W → (∀ j, j < m → listed.getD j true = true) → a = fA0 dsts x (List.range m) a0 := by
  intro listed x a W inv hall
  have h1 : a.defers = (fA0 dsts x (List.range m) a0).defers := by rw [fill_defers, inv.defers]
  have h2 : a.tmps = (fA0 dsts x (List.range m) a0).tmps := by
   refine Array.ext_getElem? fun t => ?_
   by_cases ht : ∃ j, j < m ∧ dsts.getD j none = some t
   ·obtain ⟨j, hj, hd⟩ := ht
    have hjs : j < ops.size := Nat.lt_of_lt_of_le hj tl.le
    rw [inv.done j t hj (hall j hj) hd, fill_own x t j hd]
    ·obtain ⟨o, ho⟩ : ∃ o, ops[j]? = some o := ⟨ops[j], Array.getElem?_eq_getElem hjs⟩
     exact ok.inn j o t ho ((ok.dst j o ho).trans hd)
    ·exact fun k hk hkd => ok.one k j t (Nat.lt_of_lt_of_le (List.mem_range.1 hk) tl.le) hjs hkd hd
    ·exact .inr (List.mem_range.2 hj)
   ·rw [inv.rest t fun j hj _ hd => ht ⟨j, hj, hd⟩, fill_other x t _ _ fun j hj hd => ht ⟨j, List.mem_range.1 hj, hd⟩]
  obtain ⟨at1, ad1⟩ := a
  simp only at h1 h2
  generalize fA0 dsts x (List.range m) a0 = f at h1 h2
  obtain ⟨ft, fd⟩ := f
  simp only at h1 h2
  rw [h1, h2]
 have hgetD : ∀ (listed : Array Bool) j, listed.size = ops.size → j < ops.size → listed.getD j false = listed.getD j true := by
  intro listed j hls hj
  have hs : j < listed.size := by omega
  simp only [Array.getD_eq_getD_getElem?, Array.getElem?_eq_getElem hs, Option.getD_some]
 have hready : ∀ (listed : Array Bool), listed.size = ops.size → Region.ready .any ops listed = [] → ∀ j, j < ops.size → listed.getD j true = true := by
  intro listed hls hr j
  induction j using Nat.strongRecOn with
  | ind j ih =>
   intro hj
   cases hlj : listed.getD j true with
   | true => rfl
   | false =>
    have : j ∈ Region.ready .any ops listed := by
     rw [mem_ready]
     refine ⟨hlj, ops[j], Array.getElem?_eq_getElem hj, fun e he hb => ?_⟩
     have hlt := ok.back j ops[j] (Array.getElem?_eq_getElem hj) e he hb
     rw [hgetD _ _ hls (by omega)]
     exact ih e.on hlt (by omega)
    rw [hr] at this
    simp at this
 have hnone : ∀ (listed : Array Bool), (∀ j, j < ops.size → listed.getD j true = true) → Region.ready .any ops listed = [] := by
  intro listed hall
  refine List.eq_nil_iff_forall_not_mem.2 fun j hj => ?_
  obtain ⟨h1, o, ho, _⟩ := mem_ready.1 hj
  rw [hall j (gsl ho)] at h1
  cases h1
 have hover : ∀ (fuel : Nat) (listed : Array Bool) (a : Act) (W : World), (∀ j, j < ops.size → listed.getD j true = true) → Q .normal a W → stAny P .any ops Q fuel listed a W := by
  intro fuel listed a W hall hq
  cases fuel with
  | zero => exact ⟨hnone _ hall, hq⟩
  | succ fuel => exact ⟨fun _ => hq, fun i hi => by rw [hnone _ hall] at hi; simp at hi⟩
 have hset : ∀ (listed : Array Bool) i j, i < listed.size → (listed.setIfInBounds i true).getD j true = if i = j then true else listed.getD j true := by
  intro listed i j hi
  simp only [Array.getD_eq_getD_getElem?, Array.getElem?_setIfInBounds]
  by_cases h : i = j
  ·subst h; simp [hi]
  ·simp [h]
 -- all of the head is there
 have hdone : ∀ (listed : Array Bool) (x : Nat → Value) (a : Act) (W : World), MInv ops a0 w dsts Φs m listed x a W → (∀ j, j < m → listed.getD j true = true) → if m < ops.size then stOp P ops Q m (Q .normal) a W else Q .normal a W := by
  intro listed x a W inv hall
  rw [hfin _ _ _ _ inv hall]
  exact hend x W inv.le fun j hj => inv.fact j hj (hall j hj)
 induction fuel with
 | zero =>
  intro listed x a W inv hc
  have hall : ∀ j, j < ops.size → listed.getD j true = true := fun j hj => by
   have h0 : (List.range ops.size).countP (fun i => !listed.getD i true) = 0 := by omega
   rw [List.countP_eq_zero] at h0
   simpa using h0 j (List.mem_range.2 hj)
  have h := hdone _ _ _ _ inv fun j hj => hall j (Nat.lt_of_lt_of_le hj tl.le)
  by_cases hm : m < ops.size
  ·have := hall m hm
   rw [inv.tail hm] at this
   cases this
  ·rw [if_neg hm] at h
   exact hover 0 _ _ _ hall h
 | succ fuel ih =>
  intro listed x a W inv hc
  refine ⟨fun hr => ?_, fun i hi => ?_⟩
  ·have hall := hready listed inv.ls hr
   have h := hdone _ _ _ _ inv fun j hj => hall j (Nat.lt_of_lt_of_le hj tl.le)
   by_cases hm : m < ops.size
   ·have := hall m hm
    rw [inv.tail hm] at this
    cases this
   ·rw [if_neg hm] at h
    exact h
  ·obtain ⟨hun, o, ho, hafter⟩ := mem_ready.1 hi
   have hin : i < ops.size := (gsl ho)
   have hils : i < listed.size := by rw [inv.ls]; exact hin
   have hod := ok.dst i o ho
   by_cases him : i < m
   ·-- the results that o looks at are there
    have hdl : ∀ j ∈ deps.getD i [], j < m ∧ listed.getD j true = true ∧ ∃ d, dsts.getD j none = some d := fun j hj => by
     obtain ⟨hjs, hd, e, he, hb, hon⟩ := ok.dep i o ho j hj
     have h1 := hafter e he hb
     have h2 := ok.back i o ho e he hb
     rw [hon] at h1 h2
     rw [hgetD _ _ inv.ls hjs] at h1
     exact ⟨by omega, h1, hd⟩
    have hfacts : factsOn Φs x W (deps.getD i []) := factsOn_of fun j hj => by
     obtain ⟨h1, h2, d, hd⟩ := hdl j hj
     exact inv.fact j h1 h2
    have hstep := hsteps i o him ho x W inv.le hfacts
    -- a and the act that is filled agree where o looks
    have hsame : ∀ t ∈ o.looksAt ops, (fA0 dsts x (deps.getD i []) a0).tmps[t]? = a.tmps[t]? := by
     intro t ht
     by_cases htd : ∃ j, j < ops.size ∧ dsts.getD j none = some t
     ·obtain ⟨j, hj, hd⟩ := htd
      have hjd := ok.looks i o ho j t hj hd ht
      obtain ⟨h1, h2, _⟩ := hdl j hjd
      rw [inv.done j t h1 h2 hd, fill_own x t j hd]
      ·obtain ⟨oj, hoj⟩ : ∃ oj, ops[j]? = some oj := ⟨ops[j], Array.getElem?_eq_getElem hj⟩
       exact ok.inn j oj t hoj ((ok.dst j oj hoj).trans hd)
      ·exact fun k hk hkd => ok.one k j t (ok.dep i o ho k hk).1 hj hkd hd
      ·exact .inr hjd
     ·rw [fill_other x t _ _ fun j hj hd => htd ⟨j, (ok.dep i o ho j hj).1, hd⟩, inv.rest t fun j hj _ hd => htd ⟨j, Nat.lt_of_lt_of_le hj tl.le, hd⟩]
    have heval : execOp a.eval o = execOp (fA0 dsts x (deps.getD i []) a0).eval o := execOp_congr o (ok.sel i o ho) fun z hz => by
     cases z with
     | tmp t =>
      have := hsame t (List.mem_append_left _ (List.mem_filterMap.2 ⟨.tmp t, by simpa using hz, rfl⟩))
      simp only [Act.eval, Array.getD_eq_getD_getElem?, this]
     | const v => rfl
     | global g => rfl
     | func f => rfl
    have hwant : Region.wanted o (yielded ops a.tmps) = Region.wanted o (yielded ops (fA0 dsts x (deps.getD i []) a0).tmps) := by
     unfold Region.wanted
     cases hg : o.guard with
     | none => rfl
     | some gw =>
      obtain ⟨g, want⟩ := gw
      have hy : yielded ops a.tmps g = yielded ops (fA0 dsts x (deps.getD i []) a0).tmps g := by
       unfold yielded
       cases ht : (ops[g]?).bind (·.dst) with
       | none => rfl
       | some t =>
        have := hsame t (by simp [Oper.looksAt, hg, ht])
        simp only [Option.bind_some, this]
      simp only [hy]
    -- what comes next
    have hnext : ∀ v W', R.r W W' → (Φs.getD i MPredR.any).p v W' → stAny P .any ops Q fuel (listed.setIfInBounds i true) (a.put o.dst v) W' := by
     intro v W' hle hv
     refine ih (listed.setIfInBounds i true) (fun j => if j = i then v else x j) _ _ ?_ ?_
     ·refine ⟨by simp [inv.ls], by rw [put_size, inv.size], by rw [put_defers, inv.defers], ?_, ?_, ?_, ?_, R.trans inv.le hle, ?_⟩
      ·intro j d hj hl hd
       by_cases hji : j = i
       ·subst hji
        have hdo : o.dst = some d := hod.trans hd
        rw [put_get, if_pos ⟨hdo, by rw [inv.size]; exact ok.inn j o d ho hdo⟩, if_pos rfl]
       ·rw [hset _ _ _ hils, if_neg (Ne.symm hji)] at hl
        rw [put_get, if_neg, if_neg hji]
        ·exact inv.done j d hj hl hd
        ·rintro ⟨h1, _⟩
         exact hji (ok.one j i d (Nat.lt_of_lt_of_le hj tl.le) hin hd (hod.symm.trans h1))
      ·intro t ht
       have hne : o.dst ≠ some t := by
        intro h1
        refine ht i him ?_ (hod.symm.trans h1)
        rw [hset _ _ _ hils, if_pos rfl]
       rw [put_get, if_neg fun h1 => hne h1.1]
       refine inv.rest t fun j hj hl => ht j hj ?_
       rw [hset _ _ _ hils]
       split
       ·rfl
       ·exact hl
      ·intro j hj hl
       by_cases hji : j = i
       ·subst hji
        unfold Proofs.Ytkblockodaiigaa.fact
        simp only [if_true]
        exact hv
       ·rw [hset _ _ _ hils, if_neg (Ne.symm hji)] at hl
        have := (inv.fact j hj hl).le hle
        unfold Proofs.Ytkblockodaiigaa.fact at this ⊢
        simp only [if_neg hji]
        exact this
      ·intro hm
       rw [hset _ _ _ hils, if_neg (by omega)]
       exact inv.tail hm
      ·intro j oj hoj hl e he hb
       rw [hset _ _ _ hils]
       by_cases hji : j = i
       ·subst hji
        rw [ho] at hoj
        cases hoj
        split
        ·rfl
        ·rw [← hgetD _ _ inv.ls]
         ·exact hafter e he hb
         ·have := ok.back j o ho e he hb
          omega
       ·rw [hset _ _ _ hils, if_neg (Ne.symm hji)] at hl
        split
        ·rfl
        ·exact inv.closed j oj hoj hl e he hb
     ·refine Nat.le_of_lt_succ (Nat.lt_of_lt_of_le (countP_less (fun j hj hq => ?_) i (List.mem_range.2 hin) ?_ ?_) hc)
      ·rw [hset _ _ _ hils] at hq
       by_cases hij : i = j
       ·simp [hij] at hq
       ·simpa [hij] using hq
      ·rw [hun]; rfl
      ·rw [hset _ _ _ hils, if_pos rfl]; rfl
    unfold stOp
    simp only [ho]
    rw [hwant]
    by_cases hw : Region.wanted o (yielded ops (fA0 dsts x (deps.getD i []) a0).tmps) = true
    ·rw [if_pos hw] at hstep ⊢
     have hK := hstep (fun a' W' => a'.defers = (fA0 dsts x (deps.getD i []) a0).defers ∧ R.r W W' ∧ (∀ d, o.dst = some d → ∃ v, a'.tmps[d]? = some v ∧ (Φs.getD i MPredR.any).p v W') ∧ (o.dst = none → ∃ v, (Φs.getD i MPredR.any).p v W')) fun v W' hle hv =>
      ⟨put_defers _ _ _, hle, fun d hd => ⟨v, by rw [put_get, if_pos ⟨hd, by rw [fill_size]; exact ok.inn i o d ho hd⟩], hv⟩, fun _ => ⟨v, hv⟩⟩
     unfold Oper.wp at hK ⊢
     rw [heval]
     refine upon_mono (PΦ := PΦ) (w := w) (by rw [fill_defers, inv.defers]) (by rw [fill_size, inv.size]) (fun d hd => by rw [fill_size]; exact ok.inn i o d ho hd) _ hnext ?_ hK
     intro ch W' h1 h2
     exact hpan _ _ _ inv.defers h1 h2
    ·rw [if_neg hw] at hstep ⊢
     exact hnext undef W (R.refl W) hstep
   ·-- the tail
    have him2 : i = m := by have := tl.one; omega
    subst him2
    have hall : ∀ k j, j < i → i - j ≤ k → listed.getD j true = true := by
     intro k
     induction k with
     | zero => intro j h1 h2; omega
     | succ k ihk =>
      intro j hj _
      obtain ⟨q, oq, hq1, hq2, hoq, e, he, hb, hon⟩ := tl.sink hin j hj
      by_cases hqi : q = i
      ·subst hqi
       rw [ho] at hoq
       cases hoq
       have h1 := hafter e he hb
       rw [hon, hgetD _ _ inv.ls (by omega)] at h1
       exact h1
      ·have h1 := ihk q (by omega) (by omega)
       have h2 := inv.closed q oq hoq h1 e he hb
       rw [hon] at h2
       exact h2
    have hall' : ∀ j, j < i → listed.getD j true = true := fun j hj => hall (i - j) j hj (Nat.le_refl _)
    have h := hdone _ _ _ _ inv hall'
    rw [if_pos hin] at h
    refine stOp_mono (fun a' W' hq => hover fuel _ _ _ (fun j hj => ?_) hq) h
    rw [hset _ _ _ hils]
    split
    ·rfl
    ·exact hall' j (by have := tl.one; omega)
theorem monoInv_start {a0 : Act} {w : World} {m : Nat} (x : Nat → Value) {W : World} (hle : R.r w W) (tl : TailOk ops m) : MInv ops a0 w dsts Φs m (Array.replicate ops.size false) x a0 W := by
 have h : ∀ j, j < ops.size → (Array.replicate ops.size false).getD j true = false := fun j hj => by
  simp [Array.getD_eq_getD_getElem?, hj]
 refine ⟨by simp, rfl, rfl, fun j d hj hl => ?_, fun t _ => rfl, fun j hj hl => ?_, fun hm => h m hm, hle, fun j o hoj hl => ?_⟩
 ·rw [h j (Nat.lt_of_lt_of_le hj tl.le)] at hl; cases hl
 ·rw [h j (Nat.lt_of_lt_of_le hj tl.le)] at hl; cases hl
 ·rw [h j (gsl hoj)] at hl; cases hl
theorem st_region_mono {a0 : Act} {w : World} {Q : Exit → Act → World → Prop} {os : List Oper} (m : Nat) (dsts : List (Option Tmp)) (deps : List (List Nat)) (Φs : List (MPredR R)) (PΦ : List PanicEntry → World → Prop)
  (hm : P.follows .mixedOrders = true) (hB : monoB os.toArray a0.tmps.size dsts deps = true) (hT : tailB os.toArray m = true)
  (hsteps : monoSteps P os.toArray a0 w dsts Φs PΦ (os.take m) (deps.take m) 0)
  (hpan : ∀ (a : Act) ch W, a.defers = a0.defers → R.r w W → PΦ ch W → Q (.panic ch) a W)
  (hend : ∀ x W, R.r w W → (∀ j, j < m → fact Φs x W j) → tailGoal P Q (fA0 dsts x (List.range m) a0) W (os.drop m)) :
  stAny P .any os.toArray Q os.toArray.size (Array.replicate os.toArray.size false) a0 { w with drawn := w.drawn + 1 } := by
 have ok := monoB_ok hB
 have tl := tailB_ok hT
 refine (mono_any (Φs := Φs) ok tl (fun i o hi ho => ?_) hpan (fun x W hle hf => ?_) _ _ (fun _ => undef) _ _ (monoInv_start _ (R.drew _) tl) ?_)
 ·have hos : (os.take m)[i]? = some o := by rw [List.getElem?_take, if_pos hi]; simpa using ho
  have := monoSteps_get hsteps i o hos
  rw [Nat.zero_add] at this
  have e : (deps.take m).getD i [] = deps.getD i [] := by simp [List.getD_eq_getElem?_getD, hi]
  rwa [e] at this
 ·have h := hend x W hle hf
  by_cases hmm : m < os.toArray.size
  ·rw [if_pos hmm]
   have hml : m < os.length := by simpa using hmm
   rw [List.drop_eq_getElem_cons hml] at h
   unfold stOp
   simp only [List.getElem?_toArray, List.getElem?_eq_getElem hml]
   have hw : Region.wanted os[m] (yielded os.toArray (fA0 dsts x (List.range m) a0).tmps) = true := by unfold Region.wanted; rw [h.1]
   rw [if_pos hw]
   exact h.2
  ·rw [if_neg hmm]
   rw [List.drop_eq_nil_of_le (by simpa using hmm)] at h
   exact h
 ·exact Nat.le_trans List.countP_le_length (by simp)
theorem wp_region_mono {id : Nat} {a0 : Act} {w : World} {Q : Exit → Act → World → Prop} {os : List Oper} (m : Nat) (dsts : List (Option Tmp)) (deps : List (List Nat)) (Φs : List (MPredR R)) (PΦ : List PanicEntry → World → Prop)
  (hm : P.follows .mixedOrders = true) (hB : monoB os.toArray a0.tmps.size dsts deps = true) (hT : tailB os.toArray m = true)
  (hsteps : monoSteps P os.toArray a0 w dsts Φs PΦ (os.take m) (deps.take m) 0)
  (hpan : ∀ (a : Act) ch W, a.defers = a0.defers → R.r w W → PΦ ch W → Q (.panic ch) a W)
  (hend : ∀ x W, R.r w W → (∀ j, j < m → fact Φs x W j) → tailGoal P Q (fA0 dsts x (List.range m) a0) W (os.drop m)) :
  (Code.region id os.toArray true).wp P Q a0 w :=
 wp_region_any hm (wpAny_of_st _ _ _ _ (st_region_mono m dsts deps Φs PΦ hm hB hT hsteps hpan hend))
end
end Go.Proofs.Ytkblockodaiigaa
