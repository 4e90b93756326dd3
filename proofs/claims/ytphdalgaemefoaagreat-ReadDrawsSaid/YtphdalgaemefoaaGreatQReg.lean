/- Regions that draw their order: first operations that only read (quiet ones, over a class of worlds), then a forced tail. Inside a wide fence and outside. A list in a box, appended to by the body of a range over a function. -/
import Derived.Test.YtphdalgaemefoaaGreatRf
import Derived.StillTail
namespace Go.Proofs.YtphdalgaemefoaaGreat
set_option maxRecDepth 100000
open Go.RowKit Go.Shelf
set_option linter.unusedVariables false
set_option linter.unusedSimpArgs false
section
variable {P : Program} {ops : Array Oper} {C : World → Prop} {md : Region.Mode} {n m : Nat} {F : Fence}

theorem wpQuiet_mono' {Q Q' : Act → Prop} (h : ∀ a, Q a → Q' a) : ∀ {l : List Oper} {a : Act}, wpQuiet P ops C Q l a → wpQuiet P ops C Q' l a
 | [], a, hq => h a hq
 | o :: l, a, hq => by
  unfold wpQuiet at hq ⊢
  split
  ·rename_i hw
   rw [if_pos hw] at hq
   exact Oper.quiet_mono (fun a' h' => wpQuiet_mono' h h') hq
  ·rename_i hw
   rw [if_neg hw] at hq
   exact wpQuiet_mono' h hq
def Lets (P : Program) (F : Fence) (n : Nat) : Prop := (∀ f, F.fn f) ∧ F.depth = none ∧ ∀ f args w R, Calls P f args w R → CallsIn F (n - 1) P f args w R
theorem lets_wide : Lets P Fence.wide n := ⟨fun _ => trivial, rfl, fun _ _ _ _ h => callsIn_wide.2 h⟩
theorem lets_round (l : Nat) : Lets P (Fence.wide.inRound l) n := ⟨fun _ => trivial, rfl, fun _ _ _ _ h => CallsIn.inRound l (callsIn_wide.2 h)⟩

theorem wpF_of_quiet (hF : Lets P F n) {o : Oper} {a : Act} {K : Act → Prop} {K' : Act → World → Prop} {Q' : Exit → Act → World → Prop} {w : World} (hw : C w) (h : ∀ a w', C w' → K a → K' a w') (hnd : ∀ c, o.op ≠ .defer c) (hh : o.quiet P a C K) :
  o.wpIn F n P a w K' Q' := by
 obtain ⟨v, h1, h2⟩ := hh
 have h3 := h1 w hw
 unfold Oper.quietAt at h3
 unfold Oper.wpIn
 refine ⟨fun _ _ => hF.1 _, ?_⟩
 rw [Oper.semAt_plain F _ _ (fun c => hnd c)]
 generalize (execOp a.eval o).run P w = r at *
 cases r with
 | ok x w' =>
  cases x <;> simp only [Oper.quietUpon] at h3 <;> simp only [Oper.uponIn]
  case value u =>
   obtain ⟨e1, e2⟩ := h3
   rw [e1, e2]
   exact h _ _ hw h2
  case skip =>
   obtain ⟨e1, e2⟩ := h3
   rw [e1, ← e2]
   exact h _ _ hw h2
  case enter f args =>
   obtain ⟨e1, hc⟩ := h3
   rw [e1]
   refine ⟨(fun hd => by rw [hF.2.1] at hd; cases hd), hF.2.2 _ _ _ _ (hc.mono fun e w'' ⟨he, hw''⟩ => ?_)⟩
   subst he
   exact h _ _ hw'' h2
 | halt x w' => simp only [Oper.quietUpon] at h3
theorem wpOpF_of_qOp (hF : Lets P F n) {i : Nat} {a : Act} {K : Act → Prop} {K' : Act → World → Prop} {Q' : Exit → Act → World → Prop} {w : World} (hC : C w) (h : ∀ a w', C w' → K a → K' a w') (hnd : ∀ o ∈ ops, ∀ c, o.op ≠ .defer c) (hh : qOp P ops C i K a) :
  wpOpIn F n P ops Q' i K' a w := by
 unfold qOp at hh
 unfold wpOpIn
 split
 ·rename_i ho; simp only [ho] at hh; exact h _ _ hC hh
 ·rename_i o ho
  simp only [ho] at hh
  split
  ·rename_i hw; simp only [hw, if_true] at hh; exact wpF_of_quiet hF hC h (hnd o (Array.mem_of_getElem? ho)) hh
  ·rename_i hw; simp only [hw] at hh; exact ⟨fun _ _ => hF.1 _, h _ _ hC hh⟩

def headQ (P : Program) (md : Region.Mode) (ops : Array Oper) (C : World → Prop) (m : Nat) (L : Array Bool → Act → Prop) : Nat → Array Bool → Act → Prop
 | 0, listed, a => L listed a
 | f + 1, listed, a => Region.ready md ops listed ≠ [] ∧ ∀ i ∈ Region.ready md ops listed, i < m ∧ qOp P ops C i (headQ P md ops C m L f (listed.setIfInBounds i true)) a

theorem anyF_of_headQ (hF : Lets P F n) {g : Nat} {L : Array Bool → Act → Prop} {Q' : Exit → Act → World → Prop} (hnd : ∀ o ∈ ops, ∀ c, o.op ≠ .defer c)
  (hL : ∀ listed a w, C w → L listed a → wpAnyIn F n P md ops Q' g listed a w) :
  ∀ (f : Nat) (listed : Array Bool) (a : Act) (w : World), C w → headQ P md ops C m L f listed a → wpAnyIn F n P md ops Q' (f + g) listed a w
 | 0, listed, a, w, hw, h => by rw [Nat.zero_add]; exact hL _ _ _ hw h
 | f + 1, listed, a, w, hw, h => by
  rw [show f + 1 + g = (f + g) + 1 by omega]
  exact ⟨fun h0 => absurd h0 h.1, fun i hi => wpOpF_of_qOp hF hw (fun a' w' hw' h' => anyF_of_headQ hF hnd hL f _ a' w' hw' h') hnd (h.2 i hi).2⟩
theorem any_of_headQ {g : Nat} {L : Array Bool → Act → Prop} {Q' : Exit → Act → World → Prop} (hL : ∀ listed a w, C w → L listed a → wpAny P md ops Q' g listed a w) :
  ∀ (f : Nat) (listed : Array Bool) (a : Act) (w : World), C w → headQ P md ops C m L f listed a → wpAny P md ops Q' (f + g) listed a w
 | 0, listed, a, w, hw, h => by rw [Nat.zero_add]; exact hL _ _ _ hw h
 | f + 1, listed, a, w, hw, h => by
  rw [show f + 1 + g = (f + g) + 1 by omega]
  exact ⟨fun h0 => absurd h0 h.1, fun i hi => wpOp_of_qOp hw (fun a' w' hw' h' => any_of_headQ hL f _ a' w' hw' h') (h.2 i hi).2⟩

theorem headQ_first {i : Nat} {oi : Oper} {v : Value} {L : Array Bool → Act → Prop} (hi : ops[i]? = some oi) (hsel : ∀ (j : Nat) (o : Oper) cs b, ops[j]? = some o → o.op ≠ .select cs b)
  (hs : Region.sinkB md ops m = true) (hc : Region.chainB md ops m = true) (hn : m < ops.size) (hin : i < m)
  (hdone : ∀ listed a, L listed a → ∀ j ∈ Region.ready md ops listed, m ≤ j) :
  ∀ (f : Nat) (listed : Array Bool) (a : Act), HeadInv md ops m listed →
   (∀ j oj, ops[j]? = some oj → j ≠ i → listed.getD j true = false → (∀ e ∈ oj.after, Region.binds md e = true → e.on ≠ i) → oi.apart ops oj = true) →
   i ∈ Region.ready md ops listed → YieldsIn P ops C oi v a →
   headQ P md ops C m L f (listed.setIfInBounds i true) (a.put oi.dst v) → headQ P md ops C m L (f + 1) listed a := by
 intro f
 induction f with
 | zero =>
  intro listed a inv _ hr hy H
  have hun := (mem_ready.1 hr).1
  refine ⟨fun h => (by rw [h] at hr; cases hr), fun j hj => ?_⟩
  have hjn : j < m := (Nat.lt_or_ge j m).resolve_right fun h => tail_waits hs hc hn inv _ i rfl hin hun j h hj
  refine ⟨hjn, ?_⟩
  by_cases hji : j = i
  ·subst hji; exact hy.qOp hi H
  ·have := hdone _ _ H j (ready_mono hj hji)
   omega
 | succ f ih =>
  intro listed a inv hfree hr hy H
  have hun := (mem_ready.1 hr).1
  refine ⟨fun h => (by rw [h] at hr; cases hr), fun j hj => ?_⟩
  have hjn : j < m := (Nat.lt_or_ge j m).resolve_right fun h => tail_waits hs hc hn inv _ i rfl hin hun j h hj
  refine ⟨hjn, ?_⟩
  by_cases hji : j = i
  ·subst hji; exact hy.qOp hi H
  ·have h1 := (H.2 j (ready_mono hj hji)).2
   obtain ⟨hjun, oj, hoj, hall⟩ := mem_ready.1 hj
   have hnot : ∀ e ∈ oj.after, Region.binds md e = true → e.on ≠ i := fun e he hb heq => by
    have h1 := hall e he hb
    rw [heq, getD_both hun] at h1
    cases h1
   have h2 := qOp_put hoj (hfree j oj hoj hji hjun hnot) (fun cs b => hsel i oi cs b hi) (fun cs b => hsel j oj cs b hoj) hy h1
   have hfree' : ∀ k ok, ops[k]? = some ok → k ≠ i → (listed.setIfInBounds j true).getD k true = false →
     (∀ e ∈ ok.after, Region.binds md e = true → e.on ≠ i) → oi.apart ops ok = true := fun k ok hk hki hun hno => by
    refine hfree k ok hk hki ?_ hno
    by_cases hjk : j = k
    ·subst hjk; exact hjun
    ·rw [getD_set_ne true hjk] at hun; exact hun
   refine qOp_mono (fun a' h3 => ih (listed.setIfInBounds j true) a' (inv.set hj hjn) hfree' (ready_mono hr (Ne.symm hji)) h3.1 ?_) h2
   rw [Array.setIfInBounds_comm _ _ hji]
   exact h3.2
theorem headQ_lex {g : Nat} {Lq : Act → Prop} (hsel : Region.noSelect ops = true) (hs : Region.sinkB md ops m = true) (hc : Region.chainB md ops m = true) (hn : m < ops.size) :
  ∀ (l : List Oper) (k : Nat) (listed : Array Bool) (a : Act), (∀ j, j < l.length → l[j]? = ops[k + j]?) → k + l.length = m → HeadInv md ops m listed →
  Region.lexHead md ops g l.length k listed = true → wpQuiet P ops C Lq l a →
  headQ P md ops C m (fun listed' a' => Region.seqB md ops g m listed' = true ∧ Lq a') l.length listed a
 | [], k, listed, a, _, hk, _, hB, h => by
  have : k = m := by simpa using hk
  subst this
  exact ⟨by simpa [Region.lexHead] using hB, h⟩
 | o :: l, k, listed, a, hl, hk, inv, hB, h => by
  have h0 : ops[k]? = some o := by simpa using (hl 0 (by simp)).symm
  simp only [List.length_cons, Region.lexHead, Bool.and_eq_true] at hB
  obtain ⟨⟨hr, hf⟩, hB'⟩ := hB
  have hkn : k < m := by simp only [List.length_cons] at hk; omega
  have hr' : k ∈ Region.ready md ops listed := by simpa using hr
  have hst : qOp P ops C k (wpQuiet P ops C Lq l) a := by unfold qOp; simp only [h0]; exact h
  obtain ⟨v, hy, hK⟩ := yieldsIn_of_qOp h0 hst
  exact headQ_first h0 (Region.noSelect_spec hsel) hs hc hn hkn (fun listed' a' hL => seqB_ready hL.1) l.length listed a inv (Region.free_spec h0 hf) hr' hy
   (headQ_lex hsel hs hc hn l (k + 1) _ _ (fun j hj => by have := hl (j + 1) (by simp; omega); simpa [Nat.add_assoc, Nat.add_comm 1 j] using this) (by simp only [List.length_cons] at hk; omega) (inv.set hr' hkn) hB' hK)
theorem anyF_of_seq {Q' : Exit → Act → World → Prop} : ∀ (l : List Oper) (k : Nat) (listed : Array Bool) (a : Act) (w : World), (∀ j, l[j]? = ops[k + j]?) →
  Region.seqB md ops l.length k listed = true → wpListIn F n P ops Q' l a w → wpAnyIn F n P md ops Q' l.length listed a w
 | [], _, _, _, _, _, hB, h => ⟨by simpa [Region.seqB] using hB, h⟩
 | o :: l, k, listed, a, w, hl, hB, h => by
  have h0 : ops[k]? = some o := by simpa using (hl 0).symm
  simp only [List.length_cons, Region.seqB, Bool.and_eq_true, decide_eq_true_eq] at hB
  refine ⟨fun h1 => (by rw [hB.1] at h1; cases h1), fun i hi => ?_⟩
  rw [hB.1] at hi
  have hik : i = k := by simpa using hi
  subst hik
  have hw : wpOpIn F n P ops Q' i (wpListIn F n P ops Q' l) a w := by unfold wpOpIn; simp only [h0]; exact h
  exact wpOpIn_mono (fun a' w' h' => anyF_of_seq l (i + 1) _ a' w' (fun j => by have := hl (j + 1); simpa [Nat.add_assoc, Nat.add_comm 1 j] using this) hB.2 h') hw
theorem headInv_start (os : List Oper) (m : Nat) (hm : m ≤ os.length) : HeadInv md os.toArray m (Array.replicate os.toArray.size false) :=
 ⟨by simp, fun j oj _ hl => (by rw [getD_replicate_false] at hl; cases hl), fun t _ ht => getD_in (by simpa using ht) (getD_replicate_false _ _)⟩

theorem wpF_region_quiet_tail_of (hF : Lets P F n) {id : Nat} {Q : Exit → Act → World → Prop} {a : Act} {w : World} {os : List Oper} (m : Nat) (hm : P.follows .mixedOrders = true) (hB : Region.lexTailB .any os.toArray m = true) (hnd : noDefer os = true)
  (hC : C { w with drawn := w.drawn + 1 }) (h : wpQuiet P os.toArray C (fun a' => ∀ w', C w' → wpListIn F n P os.toArray Q (os.drop m) a' w') (os.take m) a) : (Code.region id os.toArray true).wpIn F n P Q a w := by
 simp only [Region.lexTailB, Bool.and_eq_true, decide_eq_true_eq] at hB
 obtain ⟨⟨⟨⟨hsel, hn⟩, hs⟩, hc⟩, hlex⟩ := hB
 have hn' : m < os.length := by simpa using hn
 have htl : (os.take m).length = m := by simp; omega
 have hdl : (os.drop m).length = os.toArray.size - m := by simp
 have H := headQ_lex (md := .any) (g := os.toArray.size - m) hsel hs hc hn (os.take m) 0 _ a (fun j hj => by
  have hj' : j < m := by rw [htl] at hj; exact hj
  simp [hj']) (by simpa using htl) (headInv_start os m (by omega)) (by rw [htl]; exact hlex) h
 refine wpIn_region_any hm ?_
 have := anyF_of_headQ hF (Q' := Q) (g := os.toArray.size - m) (noDefer_spec hnd) (fun listed a' w' hw' hL => by
  have := anyF_of_seq (md := .any) (Q' := Q) (F := F) (n := n) (P := P) (os.drop m) m listed a' w' (fun j => by simp [List.getElem?_drop]) (by rw [hdl]; exact hL.1) (hL.2 w' hw')
  rwa [hdl] at this) _ _ _ _ hC H
 rw [htl, show m + (os.toArray.size - m) = os.toArray.size by omega] at this
 exact this
theorem wp_region_quiet_tail_of {id : Nat} {Q : Exit → Act → World → Prop} {a : Act} {w : World} {os : List Oper} (m : Nat) (hm : P.follows .mixedOrders = true) (hB : Region.lexTailB .any os.toArray m = true)
  (hC : C { w with drawn := w.drawn + 1 }) (h : wpQuiet P os.toArray C (fun a' => ∀ w', C w' → wpList P os.toArray Q (os.drop m) a' w') (os.take m) a) : (Code.region id os.toArray true).wp P Q a w := by
 simp only [Region.lexTailB, Bool.and_eq_true, decide_eq_true_eq] at hB
 obtain ⟨⟨⟨⟨hsel, hn⟩, hs⟩, hc⟩, hlex⟩ := hB
 have hn' : m < os.length := by simpa using hn
 have htl : (os.take m).length = m := by simp; omega
 have hdl : (os.drop m).length = os.toArray.size - m := by simp
 have H := headQ_lex (md := .any) (g := os.toArray.size - m) hsel hs hc hn (os.take m) 0 _ a (fun j hj => by
  have hj' : j < m := by rw [htl] at hj; exact hj
  simp [hj']) (by simpa using htl) (headInv_start os m (by omega)) (by rw [htl]; exact hlex) h
 refine wp_region_any hm ?_
 have := any_of_headQ (Q' := Q) (g := os.toArray.size - m) (fun listed a' w' hw' hL => by
  have := wpAny_of_seq (md := .any) (Q' := Q) (os.drop m) m listed a' w' (fun j => by simp [List.getElem?_drop]) (by rw [hdl]; exact hL.1) (hL.2 w' hw')
  rwa [hdl] at this) _ _ _ _ hC H
 rw [htl, show m + (os.toArray.size - m) = os.toArray.size by omega] at this
 exact this
theorem wp_region_quiet_tail {id : Nat} {Q : Exit → Act → World → Prop} {a : Act} {w : World} {os : List Oper} (m : Nat) (hm : P.follows .mixedOrders = true) (hB : Region.lexTailB .any os.toArray m = true)
  (h : wpQuiet P os.toArray (fun w' => ∃ n, w' = w.drewN n) (fun a' => ∀ w', (∃ n, w' = w.drewN n) → wpList P os.toArray Q (os.drop m) a' w') (os.take m) a) : (Code.region id os.toArray true).wp P Q a w :=
 wp_region_quiet_tail_of m hm hB ⟨1, rfl⟩ h
theorem wpF_region_quiet_tail (hF : Lets P F n) {id : Nat} {Q : Exit → Act → World → Prop} {a : Act} {w : World} {os : List Oper} (m : Nat) (hm : P.follows .mixedOrders = true) (hB : Region.lexTailB .any os.toArray m = true) (hnd : noDefer os = true)
  (h : wpQuiet P os.toArray (fun w' => ∃ n, w' = w.drewN n) (fun a' => ∀ w', (∃ n, w' = w.drewN n) → wpListIn F n P os.toArray Q (os.drop m) a' w') (os.take m) a) : (Code.region id os.toArray true).wpIn F n P Q a w :=
 wpF_region_quiet_tail_of hF m hm hB hnd ⟨1, rfl⟩ h
theorem wp_region_below {id : Nat} {Q : Exit → Act → World → Prop} {a : Act} {w : World} {os : List Oper} (B : Nat) (hm : P.follows .mixedOrders = true) (hB : Region.lexB .any os.toArray = true)
  (h : wpQuiet P os.toArray (Below B w) (fun a' => ∀ w', Below B w w' → Q .normal a' w') os a) : (Code.region id os.toArray true).wp P Q a w :=
 wp_region_quiet hm hB (Below.refl B w).drew (by simpa using h)
theorem wp_region_below_tail {id : Nat} {Q : Exit → Act → World → Prop} {a : Act} {w : World} {os : List Oper} (B m : Nat) (hm : P.follows .mixedOrders = true) (hB : Region.lexTailB .any os.toArray m = true)
  (h : wpQuiet P os.toArray (Below B w) (fun a' => ∀ w', Below B w w' → wpList P os.toArray Q (os.drop m) a' w') (os.take m) a) : (Code.region id os.toArray true).wp P Q a w :=
 wp_region_quiet_tail_of m hm hB (Below.refl B w).drew h
theorem fam_below (B : Nat) (w : World) (hB : B ≤ w.heap.size) : ∃ (ι : Type) (fam : ι → World), Nonempty ι ∧ (∀ n, Below B w (fam n)) ∧ (∀ n w', Below (fam n).heap.size (fam n) w' → ∃ m, w' = fam m) ∧ (∃ n, ({ w with drawn := w.drawn + 1 } : World) = fam n) :=
 ⟨{ W : World // Below B w W }, Subtype.val, ⟨⟨w, Below.refl _ _⟩⟩, fun n => n.2, fun n w' h => ⟨⟨w', n.2.trans (h.mono (Nat.le_trans hB n.2.size))⟩, rfl⟩, ⟨⟨_, (Below.refl B w).drew⟩, rfl⟩⟩
theorem fam_call {ι : Type} {fam : ι → World} (h2 : ∀ n w', Below (fam n).heap.size (fam n) w' → ∃ m, w' = fam m) {f : FuncId} {args : Array Value} {n : ι} {v : Value}
  (h : Calls P f args (fam n) fun e w' => e = .returned v ∧ Below (fam n).heap.size (fam n) w') : Calls P f args (fam n) fun e w' => e = .returned v ∧ ∃ m, w' = fam m :=
 h.mono fun _ _ ⟨he, hb⟩ => ⟨he, h2 _ _ hb⟩
theorem fam_drew {ι : Type} {fam : ι → World} (h2 : ∀ n w', Below (fam n).heap.size (fam n) w' → ∃ m, w' = fam m) {f : FuncId} {args : Array Value} {n : ι} {v : Value}
  (h : Calls P f args (fam n) fun e w' => e = .returned v ∧ ∃ k, w' = (fam n).drewN k) : Calls P f args (fam n) fun e w' => e = .returned v ∧ ∃ m, w' = fam m :=
 h.mono fun _ _ ⟨he, k, hk⟩ => ⟨he, h2 n _ (by rw [hk]; exact below_drewN' (Below.refl _ _) k)⟩
theorem fam_same {ι : Type} {fam : ι → World} {f : FuncId} {args : Array Value} {n : ι} {v : Value}
  (h : Calls P f args (fam n) fun e w' => e = .returned v ∧ fam n = w') : Calls P f args (fam n) fun e w' => e = .returned v ∧ ∃ m, w' = fam m :=
 h.mono fun _ _ ⟨he, hk⟩ => ⟨he, n, hk.symm⟩
theorem wp_region_fam {ι : Type} {fam : ι → World} {id : Nat} {Q : Exit → Act → World → Prop} {a : Act} {w : World} {os : List Oper} (h0 : ∃ n, ({ w with drawn := w.drawn + 1 } : World) = fam n) (hm : P.follows .mixedOrders = true) (hB : Region.lexB .any os.toArray = true)
  (h : wpQuiet P os.toArray (fun w' => ∃ n, w' = fam n) (fun a' => ∀ n, Q .normal a' (fam n)) os a) : (Code.region id os.toArray true).wp P Q a w :=
 wp_region_quiet (C := fun w' => ∃ n, w' = fam n) hm hB h0 (wpQuiet_mono' (fun a' h' w' hw' => by obtain ⟨n, rfl⟩ := hw'; exact h' n) (by simpa using h))
theorem wp_region_fam_tail {ι : Type} {fam : ι → World} {id : Nat} {Q : Exit → Act → World → Prop} {a : Act} {w : World} {os : List Oper} (m : Nat) (h0 : ∃ n, ({ w with drawn := w.drawn + 1 } : World) = fam n) (hm : P.follows .mixedOrders = true) (hB : Region.lexTailB .any os.toArray m = true)
  (h : wpQuiet P os.toArray (fun w' => ∃ n, w' = fam n) (fun a' => ∀ n, wpList P os.toArray Q (os.drop m) a' (fam n)) (os.take m) a) : (Code.region id os.toArray true).wp P Q a w :=
 wp_region_quiet_tail_of (C := fun w' => ∃ n, w' = fam n) m hm hB h0 (wpQuiet_mono' (fun a' h' w' hw' => by obtain ⟨n, rfl⟩ := hw'; exact h' n) h)
end
theorem quiet_sameN {P : Program} {f : FuncId} {args : Array Value} {W : World} {n : Nat} {v : Value} (h : Calls P f args (W.drewN n) fun e w' => e = .returned v ∧ W.drewN n = w') :
  Calls P f args (W.drewN n) fun e w'' => e = .returned v ∧ ∃ m, w'' = W.drewN m := h.mono fun _ _ ⟨he, hw⟩ => ⟨he, n, hw.symm⟩
theorem frame_mkN (F : (Nat → Value) → Array Value) (t : Array Value) (h : t = F (fun i => t.getD i undef)) : ∃ u, t = F u := ⟨_, h⟩
def fromRegionN (n : Nat) : Code → List Code
 | .region m o d => if m = n then [.region m o d] else []
 | .seq a b => match a with
  | .region m _ _ => if m = n then [.seq a b] else fromRegionN n b
  | _ => fromRegionN n a ++ fromRegionN n b
 | .block _ c => fromRegionN n c
 | .scope c => fromRegionN n c
 | .loop c => fromRegionN n c
 | .cond _ a b => fromRegionN n a ++ fromRegionN n b
 | _ => []
end Go.Proofs.YtphdalgaemefoaaGreat
