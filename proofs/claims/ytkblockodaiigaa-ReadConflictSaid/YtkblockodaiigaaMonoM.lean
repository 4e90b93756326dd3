/- A drawn region whose forced tail may write what the head reads (a loop's slice that grows): as wp_region_monoT (MonoR), but a reader in the head minds writers in the head only. -/
import Derived.Test.YtkblockodaiigaaMonoR
namespace Go.Proofs.Ytkblockodaiigaa
set_option maxRecDepth 100000
open Go.RowKit Go.Shelf
set_option linter.unusedVariables false
section
variable {P : Program} {ops : Array Oper} {dsts : List (Option Tmp)} {PΦ : List PanicEntry → World → Prop}
def monoBM (m : Nat) (ops : Array Oper) (n : Nat) (dsts : List (Option Tmp)) (deps : List (List Nat)) : Bool :=
 decide (dsts.length = ops.size) && (List.range ops.size).all fun i =>
  match ops[i]? with
  | none => false
  | some (o : Oper) =>
   noSel o && (o.dst == dsts.getD i none) &&
   (match o.dst with | some d => decide (d < n) && (List.range ops.size).all fun j => j == i || dsts.getD j none != some d | none => true) &&
   ((List.range ops.size).filter fun j => (decide (j < m) || decide (m ≤ i)) && match dsts.getD j none with | some d => (o.looksAt ops).contains d | none => false) == deps.getD i [] &&
   ((deps.getD i []).all fun j => o.after.any fun e => Region.binds .any e && e.on == j) &&
   (o.after.all fun e => !Region.binds .any e || decide (e.on < i))
structure MonoOkM (m : Nat) (ops : Array Oper) (n : Nat) (dsts : List (Option Tmp)) (deps : List (List Nat)) : Prop where
 len : dsts.length = ops.size
 sel : ∀ (i : Nat) (o : Oper), ops[i]? = some o → ∀ cs b, o.op ≠ .select cs b
 dst : ∀ (i : Nat) (o : Oper), ops[i]? = some o → o.dst = dsts.getD i none
 inn : ∀ (i : Nat) (o : Oper) (d : Tmp), ops[i]? = some o → o.dst = some d → d < n
 one : ∀ i j d, i < ops.size → j < ops.size → dsts.getD i none = some d → dsts.getD j none = some d → i = j
 looks : ∀ (i : Nat) (o : Oper), ops[i]? = some o → ∀ j d, j < m → j < ops.size → dsts.getD j none = some d → d ∈ o.looksAt ops → j ∈ deps.getD i []
 dep : ∀ (i : Nat) (o : Oper), ops[i]? = some o → ∀ j ∈ deps.getD i [], j < ops.size ∧ (∃ d, dsts.getD j none = some d) ∧ ∃ e ∈ o.after, Region.binds .any e = true ∧ e.on = j
 back : ∀ (i : Nat) (o : Oper), ops[i]? = some o → ∀ e ∈ o.after, Region.binds .any e = true → e.on < i
theorem monoBM_ok {m n : Nat} {deps : List (List Nat)} (h : monoBM m ops n dsts deps = true) : MonoOkM m ops n dsts deps := by
 unfold monoBM at h
 simp only [Bool.and_eq_true, decide_eq_true_eq, List.all_eq_true, List.mem_range] at h
 obtain ⟨hlen, h⟩ := h
 have hat : ∀ (i : Nat) (o : Oper), ops[i]? = some o → i < ops.size := fun i o ho => (gsl ho)
 have H : ∀ (i : Nat) (o : Oper), ops[i]? = some o → ((((((noSel o) = true ∧ (o.dst == dsts.getD i none) = true) ∧
   (match o.dst with | some d => decide (d < n) && (List.range ops.size).all fun j => j == i || dsts.getD j none != some d | none => true) = true) ∧
   (((List.range ops.size).filter fun j => (decide (j < m) || decide (m ≤ i)) && match dsts.getD j none with | some d => (o.looksAt ops).contains d | none => false) == deps.getD i []) = true) ∧
   (∀ j ∈ deps.getD i [], (o.after.any fun e => Region.binds .any e && e.on == j) = true)) ∧
   (o.after.all fun e => !Region.binds .any e || decide (e.on < i)) = true) := by
  intro i o ho
  have := h i (hat i o ho)
  rw [ho] at this
  simpa only [Bool.and_eq_true, List.all_eq_true] using this
 refine ⟨hlen, ?_, ?_, ?_, ?_, ?_, ?_, ?_⟩
 ·intro i o ho cs b hs
  have := (H i o ho).1.1.1.1.1
  unfold noSel at this
  rw [hs] at this
  cases this
 ·intro i o ho
  simpa using (H i o ho).1.1.1.1.2
 ·intro i o d ho hd
  have := (H i o ho).1.1.1.2
  rw [hd] at this
  simp only [Bool.and_eq_true, decide_eq_true_eq] at this
  exact this.1
 ·intro i j d hi hj h1 h2
  obtain ⟨o, ho⟩ : ∃ o, ops[i]? = some o := ⟨ops[i], Array.getElem?_eq_getElem hi⟩
  have e1 : o.dst = dsts.getD i none := by simpa using (H i o ho).1.1.1.1.2
  have := (H i o ho).1.1.1.2
  rw [e1, h1] at this
  simp only [Bool.and_eq_true, List.all_eq_true, List.mem_range] at this
  have := this.2 j hj
  rw [h2] at this
  simpa using (by simpa using this : j = i).symm
 ·intro i o ho j d hjm hj hd hl
  have := (H i o ho).1.1.2
  have e : (List.range ops.size).filter (fun j => (decide (j < m) || decide (m ≤ i)) && match dsts.getD j none with | some d => (o.looksAt ops).contains d | none => false) = deps.getD i [] := by simpa using this
  rw [← e, List.mem_filter]
  refine ⟨List.mem_range.2 hj, ?_⟩
  rw [hd]
  simpa [hjm] using hl
 ·intro i o ho j hj
  have e0 := (H i o ho).1.1.2
  have e : (List.range ops.size).filter (fun j => (decide (j < m) || decide (m ≤ i)) && match dsts.getD j none with | some d => (o.looksAt ops).contains d | none => false) = deps.getD i [] := by simpa using e0
  have hjs : j < ops.size ∧ ∃ d, dsts.getD j none = some d := by
   rw [← e, List.mem_filter] at hj
   refine ⟨List.mem_range.1 hj.1, ?_⟩
   cases hd : dsts.getD j none with
   | some d => exact ⟨d, rfl⟩
   | none =>
    have := hj.2
    rw [hd] at this
    simp at this
  have := (H i o ho).1.2 j hj
  rw [Array.any_eq_true'] at this
  obtain ⟨e, he, hb⟩ := this
  simp only [Bool.and_eq_true, beq_iff_eq] at hb
  exact ⟨hjs.1, hjs.2, e, he, hb.1, hb.2⟩
 ·intro i o ho e he hb
  have := (H i o ho).2
  rw [Array.all_eq_true'] at this
  have := this e he
  rw [hb] at this
  simpa using this
theorem any_JM {a0 : Act} {J : Array Bool → (Nat → Value) → World → Prop} {Q : Exit → Act → World → Prop} {deps : List (List Nat)} {m : Nat} (ok : MonoOkM m ops a0.tmps.size dsts deps) (tl : TailsOk ops m)
  (hsteps : ∀ (i : Nat) (o : Oper), i < m → ops[i]? = some o → stepJ P ops a0 dsts J PΦ (deps.getD i []) i o)
  (hpan : ∀ (a : Act) ch W, a.defers = a0.defers → PΦ ch W → Q (.panic ch) a W)
  (hend : ∀ listed x W, (∀ j, j < m → listed.getD j true = true) → J listed x W → stSeq P ops Q (ops.size - m) m (fA0 dsts x (List.range m) a0) W) :
  ∀ (fuel : Nat) (listed : Array Bool) (x : Nat → Value) (a : Act) (W : World), JInvT ops a0 dsts J m listed x a W → (List.range ops.size).countP (fun i => !listed.getD i true) ≤ fuel → stAny P .any ops Q fuel listed a W := by
 intro fuel
 have hfin : ∀ (listed : Array Bool) (x : Nat → Value) (a : Act) (W : World), JInvT ops a0 dsts J m listed x a W → (∀ j, j < m → listed.getD j true = true) → a = fA0 dsts x (List.range m) a0 := by
  intro listed x a W inv hall
  have h1 : a.defers = (fA0 dsts x (List.range m) a0).defers := by rw [fill_defers, inv.defers]
  have h2 : a.tmps = (fA0 dsts x (List.range m) a0).tmps := by
   refine Array.ext_getElem? fun t => ?_
   by_cases ht : ∃ j, j < m ∧ dsts.getD j none = some t
   ·obtain ⟨j, hj, hd⟩ := ht
    have hjs : j < ops.size := Nat.lt_of_lt_of_le hj tl.le
    rw [inv.done j t hj (hall j hj) hd, fill_own x t j hd]
    ·obtain ⟨o, ho⟩ : ∃ o, ops[j]? = some o := ⟨ops[j], Array.getElem?_eq_getElem hjs⟩
     exact ok.inn j o t ho ((ok.dst j o ho).trans hd)
    ·exact fun k hk hkd => ok.one k j t (Nat.lt_of_lt_of_le (List.mem_range.1 hk) tl.le) hjs hkd hd
    ·exact .inr (List.mem_range.2 hj)
   ·rw [inv.rest t fun j hj _ hd => ht ⟨j, hj, hd⟩, fill_other x t _ _ fun j hj hd => ht ⟨j, List.mem_range.1 hj, hd⟩]
  obtain ⟨at1, ad1⟩ := a
  simp only at h1 h2
  generalize fA0 dsts x (List.range m) a0 = f at h1 h2
  obtain ⟨ft, fd⟩ := f
  simp only at h1 h2
  rw [h1, h2]
 have hgetD : ∀ (listed : Array Bool) j, listed.size = ops.size → j < ops.size → listed.getD j false = listed.getD j true := by
  intro listed j hls hj
  have hs : j < listed.size := by omega
  simp only [Array.getD_eq_getD_getElem?, Array.getElem?_eq_getElem hs, Option.getD_some]
 have hready : ∀ (listed : Array Bool), listed.size = ops.size → Region.ready .any ops listed = [] → ∀ j, j < ops.size → listed.getD j true = true := by
  intro listed hls hr j
  induction j using Nat.strongRecOn with
  | ind j ih =>
   intro hj
   cases hlj : listed.getD j true with
   | true => rfl
   | false =>
    have : j ∈ Region.ready .any ops listed := by
     rw [mem_ready]
     refine ⟨hlj, ops[j], Array.getElem?_eq_getElem hj, fun e he hb => ?_⟩
     have hlt := ok.back j ops[j] (Array.getElem?_eq_getElem hj) e he hb
     rw [hgetD _ _ hls (by omega)]
     exact ih e.on hlt (by omega)
    rw [hr] at this
    simp at this
 have hnone : ∀ (listed : Array Bool), (∀ j, j < ops.size → listed.getD j true = true) → Region.ready .any ops listed = [] := by
  intro listed hall
  refine List.eq_nil_iff_forall_not_mem.2 fun j hj => ?_
  obtain ⟨h1, o, ho, _⟩ := mem_ready.1 hj
  rw [hall j (gsl ho)] at h1
  cases h1
 have hover : ∀ (fuel : Nat) (listed : Array Bool) (a : Act) (W : World), (∀ j, j < ops.size → listed.getD j true = true) → Q .normal a W → stAny P .any ops Q fuel listed a W := by
  intro fuel listed a W hall hq
  cases fuel with
  | zero => exact ⟨hnone _ hall, hq⟩
  | succ fuel => exact ⟨fun _ => hq, fun i hi => by rw [hnone _ hall] at hi; simp at hi⟩
 have hset : ∀ (listed : Array Bool) i j, i < listed.size → (listed.setIfInBounds i true).getD j true = if i = j then true else listed.getD j true := by
  intro listed i j hi
  simp only [Array.getD_eq_getD_getElem?, Array.getElem?_setIfInBounds]
  by_cases h : i = j
  ·subst h; simp [hi]
  ·simp [h]
 have hbefore : ∀ (listed : Array Bool), (∀ (j : Nat) (o : Oper), ops[j]? = some o → listed.getD j true = true → ∀ e ∈ o.after, Region.binds .any e = true → listed.getD e.on true = true) → listed.size = ops.size → ∀ i, m ≤ i → i ∈ Region.ready .any ops listed → ∀ j, j < i → listed.getD j true = true := by
  intro listed hcl hls i him hi
  obtain ⟨hun, o, ho, hafter⟩ := mem_ready.1 hi
  have hin : i < ops.size := (gsl ho)
  have hall : ∀ k j, j < i → i - j ≤ k → listed.getD j true = true := by
   intro k
   induction k with
   | zero => intro j h1 h2; omega
   | succ k ihk =>
    intro j hj _
    obtain ⟨q, oq, hq1, hq2, hoq, e, he, hb, hon⟩ := tl.sink i him hin j hj
    by_cases hqi : q = i
    ·subst hqi
     rw [ho] at hoq
     cases hoq
     have h1 := hafter e he hb
     rw [hon, hgetD _ _ hls (by omega)] at h1
     exact h1
    ·have h1 := ihk q (by omega) (by omega)
     have h2 := hcl q oq hoq h1 e he hb
     rw [hon] at h2
     exact h2
  exact fun j hj => hall (i - j) j hj (Nat.le_refl _)
 have hseq : ∀ (k i fuel : Nat) (listed : Array Bool) (a : Act) (W : World), i + k = ops.size → listed.size = ops.size → m ≤ i → (∀ j, j < i → listed.getD j true = true) → (∀ j, i ≤ j → j < ops.size → listed.getD j true = false) →
   (∀ (j : Nat) (o : Oper), ops[j]? = some o → listed.getD j true = true → ∀ e ∈ o.after, Region.binds .any e = true → listed.getD e.on true = true) → k ≤ fuel → stSeq P ops Q k i a W → stAny P .any ops Q fuel listed a W := by
  intro k
  induction k with
  | zero =>
   intro i fuel listed a W hik hls hmi hl hu hcl hf h
   exact hover _ _ _ _ (fun j hj => hl j (by omega)) h
  | succ k ihk =>
   intro i fuel listed a W hik hls hmi hl hu hcl hf h
   obtain ⟨f, rfl⟩ : ∃ f, fuel = f + 1 := ⟨fuel - 1, by omega⟩
   have hin : i < ops.size := by omega
   refine ⟨fun hr => ?_, fun q hq => ?_⟩
   ·have := hready listed hls hr i hin
    rw [hu i (Nat.le_refl _) hin] at this
    cases this
   ·obtain ⟨hun, o, ho, hafter⟩ := mem_ready.1 hq
    have hqn : q < ops.size := (gsl ho)
    have hqi : i ≤ q := Nat.le_of_not_lt fun hlt => by rw [hl q hlt] at hun; cases hun
    have hb := hbefore listed hcl hls q (by omega) hq
    have : q = i := by
     refine Nat.le_antisymm (Nat.le_of_not_lt fun hlt => ?_) hqi
     have h1 := hb i hlt
     rw [hu i (Nat.le_refl _) hin] at h1
     cases h1
    subst this
    have hqs : q < listed.size := by omega
    refine stOp_mono (fun a' W' hq2 => ihk (q + 1) f (listed.setIfInBounds q true) a' W' (by omega) (by simp [hls]) (by omega) (fun j hj => ?_) (fun j hj1 hj2 => ?_) ?_ (by omega) hq2) h
    ·rw [hset _ _ _ hqs]
     split
     ·rfl
     ·exact hl j (by omega)
    ·rw [hset _ _ _ hqs, if_neg (by omega)]
     exact hu j (by omega) hj2
    ·intro j oj hoj hlj e he hbe
     rw [hset _ _ _ hqs]
     by_cases hjq : j = q
     ·subst hjq
      rw [ho] at hoj
      cases hoj
      split
      ·rfl
      ·exact hl _ (ok.back j o ho e he hbe)
     ·rw [hset _ _ _ hqs, if_neg (Ne.symm hjq)] at hlj
      split
      ·rfl
      ·exact hcl j oj hoj hlj e he hbe
 -- all of the head is there
 have hdone : ∀ (listed : Array Bool) (x : Nat → Value) (a : Act) (W : World), JInvT ops a0 dsts J m listed x a W → (∀ j, j < m → listed.getD j true = true) → stSeq P ops Q (ops.size - m) m a W := by
  intro listed x a W inv hall
  rw [hfin _ _ _ _ inv hall]
  exact hend listed x W hall inv.jay
 induction fuel with
 | zero =>
  intro listed x a W inv hc
  have hall : ∀ j, j < ops.size → listed.getD j true = true := fun j hj => by
   have h0 : (List.range ops.size).countP (fun i => !listed.getD i true) = 0 := by omega
   rw [List.countP_eq_zero] at h0
   simpa using h0 j (List.mem_range.2 hj)
  have h := hdone _ _ _ _ inv fun j hj => hall j (Nat.lt_of_lt_of_le hj tl.le)
  by_cases hm : m < ops.size
  ·have := hall m hm
   rw [inv.tail m (Nat.le_refl _) hm] at this
   cases this
  ·rw [show ops.size - m = 0 by omega] at h
   exact hover 0 _ _ _ hall h
 | succ fuel ih =>
  intro listed x a W inv hc
  refine ⟨fun hr => ?_, fun i hi => ?_⟩
  ·have hall := hready listed inv.ls hr
   have h := hdone _ _ _ _ inv fun j hj => hall j (Nat.lt_of_lt_of_le hj tl.le)
   by_cases hm : m < ops.size
   ·have := hall m hm
    rw [inv.tail m (Nat.le_refl _) hm] at this
    cases this
   ·rw [show ops.size - m = 0 by omega] at h
    exact h
  ·obtain ⟨hun, o, ho, hafter⟩ := mem_ready.1 hi
   have hin : i < ops.size := (gsl ho)
   have hils : i < listed.size := by rw [inv.ls]; exact hin
   have hod := ok.dst i o ho
   by_cases him : i < m
   ·-- the results that o looks at are there
    have hdl : ∀ j ∈ deps.getD i [], j < m ∧ listed.getD j true = true ∧ ∃ d, dsts.getD j none = some d := fun j hj => by
     obtain ⟨hjs, hd, e, he, hb, hon⟩ := ok.dep i o ho j hj
     have h1 := hafter e he hb
     have h2 := ok.back i o ho e he hb
     rw [hon] at h1 h2
     rw [hgetD _ _ inv.ls hjs] at h1
     exact ⟨by omega, h1, hd⟩
    have hstep := hsteps i o him ho listed x W inv.ls hun (fun j hj => (hdl j hj).2.1) inv.jay
    -- a and the act that is filled agree where o looks
    have hsame : ∀ t ∈ o.looksAt ops, (fA0 dsts x (deps.getD i []) a0).tmps[t]? = a.tmps[t]? := by
     intro t ht
     by_cases htd : ∃ j, j < m ∧ dsts.getD j none = some t
     ·obtain ⟨j, hjm, hd⟩ := htd
      have hj := Nat.lt_of_lt_of_le hjm tl.le
      have hjd := ok.looks i o ho j t hjm hj hd ht
      obtain ⟨h1, h2, _⟩ := hdl j hjd
      rw [inv.done j t h1 h2 hd, fill_own x t j hd]
      ·obtain ⟨oj, hoj⟩ : ∃ oj, ops[j]? = some oj := ⟨ops[j], Array.getElem?_eq_getElem hj⟩
       exact ok.inn j oj t hoj ((ok.dst j oj hoj).trans hd)
      ·exact fun k hk hkd => ok.one k j t (ok.dep i o ho k hk).1 hj hkd hd
      ·exact .inr hjd
     ·rw [fill_other x t _ _ fun j hj hd => htd ⟨j, (hdl j hj).1, hd⟩, inv.rest t fun j hj _ hd => htd ⟨j, hj, hd⟩]
    have heval : execOp a.eval o = execOp (fA0 dsts x (deps.getD i []) a0).eval o := execOp_congr o (ok.sel i o ho) fun z hz => by
     cases z with
     | tmp t =>
      have := hsame t (List.mem_append_left _ (List.mem_filterMap.2 ⟨.tmp t, by simpa using hz, rfl⟩))
      simp only [Act.eval, Array.getD_eq_getD_getElem?, this]
     | const v => rfl
     | global g => rfl
     | func f => rfl
    have hwant : Region.wanted o (yielded ops a.tmps) = Region.wanted o (yielded ops (fA0 dsts x (deps.getD i []) a0).tmps) := by
     unfold Region.wanted
     cases hg : o.guard with
     | none => rfl
     | some gw =>
      obtain ⟨g, want⟩ := gw
      have hy : yielded ops a.tmps g = yielded ops (fA0 dsts x (deps.getD i []) a0).tmps g := by
       unfold yielded
       cases ht : (ops[g]?).bind (·.dst) with
       | none => rfl
       | some t =>
        have := hsame t (by simp [Oper.looksAt, hg, ht])
        simp only [Option.bind_some, this]
      simp only [hy]
    -- what comes next
    have hnext : ∀ v W', J (listed.setIfInBounds i true) (updV x i v) W' → stAny P .any ops Q fuel (listed.setIfInBounds i true) (a.put o.dst v) W' := by
     intro v W' hv
     refine ih (listed.setIfInBounds i true) (updV x i v) _ _ ?_ ?_
     ·refine ⟨by simp [inv.ls], by rw [put_size, inv.size], by rw [put_defers, inv.defers], ?_, ?_, hv, ?_, ?_⟩
      ·intro j d hj hl hd
       by_cases hji : j = i
       ·subst hji
        have hdo : o.dst = some d := hod.trans hd
        rw [put_get, if_pos ⟨hdo, by rw [inv.size]; exact ok.inn j o d ho hdo⟩]
        simp [updV]
       ·rw [hset _ _ _ hils, if_neg (Ne.symm hji)] at hl
        rw [put_get, if_neg]
        ·have := inv.done j d hj hl hd
         simp only [updV, if_neg hji]
         exact this
        ·rintro ⟨h1, _⟩
         exact hji (ok.one j i d (Nat.lt_of_lt_of_le hj tl.le) hin hd (hod.symm.trans h1))
      ·intro t ht
       have hne : o.dst ≠ some t := by
        intro h1
        refine ht i him ?_ (hod.symm.trans h1)
        rw [hset _ _ _ hils, if_pos rfl]
       rw [put_get, if_neg fun h1 => hne h1.1]
       refine inv.rest t fun j hj hl => ht j hj ?_
       rw [hset _ _ _ hils]
       split
       ·rfl
       ·exact hl
      ·intro q hq1 hq2
       rw [hset _ _ _ hils, if_neg (by omega)]
       exact inv.tail q hq1 hq2
      ·intro j oj hoj hl e he hb
       rw [hset _ _ _ hils]
       by_cases hji : j = i
       ·subst hji
        rw [ho] at hoj
        cases hoj
        split
        ·rfl
        ·rw [← hgetD _ _ inv.ls]
         ·exact hafter e he hb
         ·have := ok.back j o ho e he hb
          omega
       ·rw [hset _ _ _ hils, if_neg (Ne.symm hji)] at hl
        split
        ·rfl
        ·exact inv.closed j oj hoj hl e he hb
     ·refine Nat.le_of_lt_succ (Nat.lt_of_lt_of_le (countP_less (fun j hj hq => ?_) i (List.mem_range.2 hin) ?_ ?_) hc)
      ·rw [hset _ _ _ hils] at hq
       by_cases hij : i = j
       ·simp [hij] at hq
       ·simpa [hij] using hq
      ·rw [hun]; rfl
      ·rw [hset _ _ _ hils, if_pos rfl]; rfl
    unfold stOp
    simp only [ho]
    rw [hwant]
    by_cases hw : Region.wanted o (yielded ops (fA0 dsts x (deps.getD i []) a0).tmps) = true
    ·rw [if_pos hw] at hstep ⊢
     have hK := hstep (fun a' W' => a'.defers = (fA0 dsts x (deps.getD i []) a0).defers ∧ ∃ v, (∀ d, o.dst = some d → a'.tmps[d]? = some v) ∧ J (listed.setIfInBounds i true) (updV x i v) W') fun v W' hv =>
      ⟨put_defers _ _ _, v, fun d hd => by rw [put_get, if_pos ⟨hd, by rw [fill_size]; exact ok.inn i o d ho hd⟩], hv⟩
     unfold Oper.wp at hK ⊢
     rw [heval]
     refine upon_J (PΦ := PΦ) (by rw [fill_defers, inv.defers]) (by rw [fill_size, inv.size]) (fun d hd => by rw [fill_size]; exact ok.inn i o d ho hd) _ hnext ?_ hK
     intro ch W' h1
     exact hpan _ _ _ inv.defers h1
    ·rw [if_neg hw] at hstep ⊢
     exact hnext undef W hstep
   ·-- the tail
    have hall' := hbefore listed (fun j oj hoj hl e he hb => inv.closed j oj hoj hl e he hb) inv.ls i (by omega) hi
    have him2 : i = m := by
     refine Nat.le_antisymm (Nat.le_of_not_lt fun h => ?_) (by omega)
     have h1 := hall' m h
     rw [inv.tail m (Nat.le_refl _) (by omega)] at h1
     cases h1
    subst him2
    have h := hdone _ _ _ _ inv hall'
    have hk : ops.size - i = (ops.size - (i + 1)) + 1 := by omega
    rw [hk] at h
    refine stOp_mono (fun a' W' hq => hseq (ops.size - (i + 1)) (i + 1) fuel (listed.setIfInBounds i true) a' W' (by omega) (by simp [inv.ls]) (by omega) (fun q hq2 => ?_) (fun q hq1 hq2 => ?_) ?_ ?_ hq) h
    ·rw [hset _ _ _ hils]
     split
     ·rfl
     ·exact hall' q (by omega)
    ·rw [hset _ _ _ hils, if_neg (by omega)]
     exact inv.tail q (by omega) hq2
    ·intro j oj hoj hl e he hb
     rw [hset _ _ _ hils]
     by_cases hji : j = i
     ·subst hji
      rw [ho] at hoj
      cases hoj
      split
      ·rfl
      ·exact hall' _ (ok.back j o ho e he hb)
     ·rw [hset _ _ _ hils, if_neg (Ne.symm hji)] at hl
      split
      ·rfl
      ·exact inv.closed j oj hoj hl e he hb
    ·refine Nat.le_trans ?_ (Nat.le_of_lt_succ (Nat.lt_of_lt_of_le (countP_less (q := fun j => !(listed.setIfInBounds i true).getD j true) (fun j hj hq => ?_) i (List.mem_range.2 hin) ?_ ?_) hc))
     ·refine Nat.le_trans ?_ (count_tail (ops := ops) (k := i + 1) (fun q hq1 hq2 => ?_))
      ·exact Nat.le_refl _
      ·rw [hset _ _ _ hils, if_neg (by omega)]
       exact inv.tail q (by omega) hq2
     ·rw [hset _ _ _ hils] at hq
      by_cases hij : i = j
      ·simp [hij] at hq
      ·simpa [hij] using hq
     ·rw [hun]; rfl
     ·rw [hset _ _ _ hils, if_pos rfl]; rfl
theorem wp_region_JM {id : Nat} {a0 : Act} {w : World} {Q : Exit → Act → World → Prop} {os : List Oper} (m : Nat) (dsts : List (Option Tmp)) (deps : List (List Nat)) (J : JRel) (PΦ : List PanicEntry → World → Prop)
  (hm : P.follows .mixedOrders = true) (hB : monoBM m os.toArray a0.tmps.size dsts deps = true) (hT : tailsB os.toArray m = true) (hg : ((os.drop m).all fun o => o.guard.isNone) = true)
  (h0 : ∀ D x, (∀ j, j < os.length → D j = false) → J D x { w with drawn := w.drawn + 1 })
  (hsteps : stepsD P os.toArray a0 dsts J PΦ (os.take m) (deps.take m) 0)
  (hpan : ∀ (a : Act) ch W, a.defers = a0.defers → PΦ ch W → Q (.panic ch) a W)
  (hend : ∀ D x W, (∀ j, j < m → D j = true) → J D x W → ∀ Q' : Exit → Act → World → Prop, (∀ a W, Q .normal a W → Q' .normal a W) → (∀ ch a W, Q (.panic ch) a W → Q' (.panic ch) a W) → wpList P os.toArray Q' (os.drop m) (fA0 dsts x (List.range m) a0) W) :
  (Code.region id os.toArray true).wp P Q a0 w := by
 have ok := monoBM_ok hB
 have tl := tailsB_ok hT
 have hmo : m ≤ os.length := by have := tl.le; simpa using this
 have hset : ∀ (listed : Array Bool) i, i < listed.size → (fun j => (listed.setIfInBounds i true).getD j true) = updB (fun j => listed.getD j true) i := by
  intro listed i hi
  funext j
  simp only [updB, Array.getD_eq_getD_getElem?, Array.getElem?_setIfInBounds]
  by_cases h : j = i
  ·subst h; simp [hi]
  ·simp [h, Ne.symm h]
 refine wp_region_any hm (wpAny_of_st _ _ _ _ ?_)
 refine any_JM (J := fun listed x W => J (fun j => listed.getD j true) x W) (PΦ := PΦ) ok tl (fun i o hi ho => ?_) hpan (fun listed x W hall hJ => ?_) _ _ (fun _ => undef) _ _ (jInv_startT _ ?_ tl.le) ?_
 ·intro listed x W hls hun hdeps hJ
  have his : i < listed.size := by rw [hls]; exact (gsl ho)
  have hos : (os.take m)[i]? = some o := by rw [List.getElem?_take, if_pos hi]; simpa using ho
  have h0 := stepsD_get hsteps i o hos
  rw [Nat.zero_add, show (deps.take m).getD i [] = deps.getD i [] by simp [List.getD_eq_getElem?_getD, hi]] at h0
  obtain ⟨hg, h0⟩ := h0
  have hw : Region.wanted o (yielded os.toArray (fA0 dsts x (deps.getD i []) a0).tmps) = true := by unfold Region.wanted; rw [hg]
  rw [if_pos hw]
  intro K hK
  refine one_wp (ops := os.toArray) (φ := fun v W' => J (updB (fun j => listed.getD j true) i) (updV x i v) W') hg (fun Q hQ hP => h0 _ x W hun hdeps hJ Q hQ hP) fun v W' h1 => hK v W' ?_
  show J (fun j => (listed.setIfInBounds i true).getD j true) _ _
  rw [hset _ _ his]
  exact h1
 ·have h := hend _ x W hall hJ (fun e a' W' => e = .normal ∧ Q .normal a' W' ∨ ∃ ch, e = .panic ch ∧ Q (.panic ch) a' W') (fun a W h => .inl ⟨rfl, h⟩) (fun ch a W h => .inr ⟨ch, rfl, h⟩)
  have h2 := seq_list os.toArray (os.drop m) m _ W hg (fun j => by simp) h
  rw [List.length_drop] at h2
  simpa using h2
 ·refine h0 _ _ fun j hj => ?_
  have hj2 : j < os.toArray.size := by simpa using hj
  simp only [Array.getD_eq_getD_getElem?, Array.getElem?_replicate, if_pos hj2, Option.getD_some]
 ·exact Nat.le_trans List.countP_le_length (by simp)
end
section
variable {R : WRel} {P : Program} {Φs : List (MPredR R)} {PΦ : List PanicEntry → World → Prop}
theorem wp_region_GM {id : Nat} {a0 : Act} {w : World} {Q : Exit → Act → World → Prop} {os : List Oper} (m : Nat) (dsts : List (Option Tmp)) (deps : List (List Nat)) (Φs : List (MPredR R)) (G : JRel) (PΦ : List PanicEntry → World → Prop)
  (hm : P.follows .mixedOrders = true) (hB : monoBM m os.toArray a0.tmps.size dsts deps = true) (hT : tailsB os.toArray m = true) (hg : ((os.drop m).all fun o => o.guard.isNone) = true)
  (hdm : ((deps.take m).all fun d => d.all fun j => decide (j < m)) = true)
  (h0 : ∀ D x, (∀ j, j < os.length → D j = false) → G D x { w with drawn := w.drawn + 1 })
  (hsteps : stepsG P os.toArray a0 w dsts Φs G PΦ (os.take m) (deps.take m) 0)
  (hpan : ∀ (a : Act) ch W, a.defers = a0.defers → PΦ ch W → Q (.panic ch) a W)
  (hend : ∀ D x W, (∀ j, j < m → D j = true) → R.r w W → (∀ j, j < m → fact Φs x W j) → G D x W → ∀ Q' : Exit → Act → World → Prop, (∀ a W, Q .normal a W → Q' .normal a W) → (∀ ch a W, Q (.panic ch) a W → Q' (.panic ch) a W) → wpList P os.toArray Q' (os.drop m) (fA0 dsts x (List.range m) a0) W) :
  (Code.region id os.toArray true).wp P Q a0 w := by
 have hmo : m ≤ os.length := by have := (tailsB_ok hT).le; simpa using this
 refine wp_region_JM m dsts deps (gRel w Φs m G) PΦ hm hB hT hg (fun D x hD => ⟨R.drew w, fun j hj hl => ?_, h0 D x hD⟩) (stepsG_D ?_ (by rw [List.length_take]; omega) hsteps) hpan fun D x W hD hJ => hend D x W hD hJ.1 (fun j hj => hJ.2.1 j hj (hD j hj)) hJ.2.2
 ·rw [hD j (by omega)] at hl; cases hl
 ·intro d hd j hj
  rw [List.all_eq_true] at hdm
  have := hdm d hd
  rw [List.all_eq_true] at this
  simpa using this j hj
theorem wp_region_monoM {id : Nat} {a0 : Act} {w : World} {Q : Exit → Act → World → Prop} {os : List Oper} (m : Nat) (dsts : List (Option Tmp)) (deps : List (List Nat)) (Φs : List (MPredR R)) (PΦ : List PanicEntry → World → Prop)
  (hm : P.follows .mixedOrders = true) (hB : monoBM m os.toArray a0.tmps.size dsts deps = true) (hT : tailsB os.toArray m = true) (hg : ((os.drop m).all fun o => o.guard.isNone) = true)
  (hdm : ((deps.take m).all fun d => d.all fun j => decide (j < m)) = true)
  (hsteps : stepsG P os.toArray a0 w dsts Φs (fun _ _ _ => True) PΦ (os.take m) (deps.take m) 0)
  (hpan : ∀ (a : Act) ch W, a.defers = a0.defers → PΦ ch W → Q (.panic ch) a W)
  (hend : ∀ x W, R.r w W → (∀ j, j < m → fact Φs x W j) → ∀ Q' : Exit → Act → World → Prop, (∀ a W, Q .normal a W → Q' .normal a W) → (∀ ch a W, Q (.panic ch) a W → Q' (.panic ch) a W) → wpList P os.toArray Q' (os.drop m) (fA0 dsts x (List.range m) a0) W) :
  (Code.region id os.toArray true).wp P Q a0 w :=
 wp_region_GM m dsts deps Φs (fun _ _ _ => True) PΦ hm hB hT hg hdm (fun _ _ _ => trivial) hsteps hpan fun D x W _ hR hf _ => hend x W hR hf
end
end Go.Proofs.Ytkblockodaiigaa
