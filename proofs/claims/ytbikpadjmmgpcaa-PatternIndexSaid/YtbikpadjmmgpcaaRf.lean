/- Ranges over functions: iterators over an index, by one form of contract. -/
import Derived.Test.YtbikpadjmmgpcaaStd
import Derived.RangeFuncNested
import Derived.RangeFuncBound
import Derived.RangeFuncCalls
import Derived.RangeFuncLeaves
import Derived.RangeFuncFrom
import Derived.Shelf.Abstract
import Derived.Shelf.RegionOpen
import Derived.OwnWalkIn
import Derived.TacticsInMore
import Derived.LoopNIn
import Derived.LoopIn
namespace Go.Proofs.Ytbikpadjmmgpcaa
open Go.RowKit Go.Shelf
set_option linter.unusedVariables false
set_option linter.unusedSimpArgs false
attribute [local go_sem] Oper.semAt_some

/-- What a round keeps: all that lies below n₀, and the blocks Bs. -/
def Kept (n₀ : Nat) (Bs : List Nat) (W W' : World) : Prop := Below n₀ W W' ∧ ∀ B ∈ Bs, W'.heap[B]? = W.heap[B]?
theorem Kept.refl (n₀ : Nat) (Bs : List Nat) (W : World) : Kept n₀ Bs W W := ⟨Below.refl _ _, fun _ _ => rfl⟩
theorem Kept.trans {n₀ : Nat} {Bs : List Nat} {A B C : World} (h : Kept n₀ Bs A B) (k : Kept n₀ Bs B C) : Kept n₀ Bs A C := ⟨h.1.trans k.1, fun b hb => (k.2 b hb).trans (h.2 b hb)⟩
theorem Kept.cell {n₀ : Nat} {Bs : List Nat} {W W' : World} (h : Kept n₀ Bs W W') {B i : Nat} (hB : B ∈ Bs) : W'.cell? ⟨B, i, none⟩ = W.cell? ⟨B, i, none⟩ := World.cell?_of_block (h.2 B hB)
theorem Kept.put {n₀ : Nat} {Bs : List Nat} {w : World} (hn : n₀ ≤ w.heap.size) (hBs : ∀ B ∈ Bs, B < w.heap.size) (W : World) (l : Nat) (o o' : Obj) (hl : w.heap.size ≤ l) (h : W.heap[l]? = some o) (hc : o.isCells = false) (hw : o.isWalk = false) : Kept n₀ Bs W (W.putObj l o') :=
  ⟨belowK_b hn W l o o' hl h hc hw, fun B hB => World.putObj_heap_other (by have := hBs B hB; omega)⟩

/-- The function g, with the captured values lb, yields f 0, .., f (N - 1), in this order, to every body that keeps what lies below n₀, and the blocks Bs. -/
def Yields (P : Program) (g : Nat) (lb : Array Value) (N : Nat) (f : Fin N → Array Value) (n₀ : Nat) (Bs : List Nat) (w : World) : Prop :=
  SeqStopsK Fence.wide 4 P g lb f (Kept n₀ Bs) (fun ys => ys = List.finRange N) (fun pre => pre <+: List.finRange N) N w
theorem finRange_take_succ {N : Nat} (k : Nat) (h : k < N) : (List.finRange N).take (k + 1) = (List.finRange N).take k ++ [⟨k, h⟩] := by
  have hl : k < (List.finRange N).length := by simpa using h
  rw [List.take_add_one, List.getElem?_eq_getElem hl]
  simp
/-- A slice of the earlier world w0 reads the same in every later one. -/
theorem arr_lt {α : Type} {f : α → Value} {w0 W : World} {v : Value} {xs : List α} (h : Arr f w0 v xs) (hb : Below w0.heap.size w0 W) :
    ∃ A c, v = .slice A xs.length c ∧ xs.length ≤ c ∧ c ≤ maxLen ∧ (A = none → c = 0) ∧ (0 < xs.length → ∃ b off, A = some ⟨b, off, none⟩ ∧ b < w0.heap.size ∧ ∀ j (h : j < xs.length), W.cell? ⟨b, off + j, none⟩ = some (f xs[j])) := by
  obtain ⟨A, c, hv, h1, h2, hN, h3⟩ := h
  refine ⟨A, c, hv, h1, h2, hN, fun h0 => ?_⟩
  obtain ⟨b, off, ha, hlt, hc⟩ := h3 h0
  exact ⟨b, off, ha, hlt, fun j hj => (hb.cell (p := ⟨b, off + j, none⟩) hlt).trans (hc j hj)⟩

/-- append onto a row of the call's own, inside a fence (a round too). -/
theorem wpListIn_appI {F : Fence} {n : Nat} {P : Program} {w : World} {ops : Array Oper} {rest : List Oper} {o : Oper} {a : Act} {Q : Exit → Act → World → Prop} (hgd : o.guard = none) (s x : Operand) (t : TypeId)
    (ho : o.op = .call { callee := .builtin .append, args := #[s, x], argTypes := #[t, t] })
    (base : Nat) (e : TypeId) (hE : Elem1 P t e (.int .i64 0) 8)
    (v : Value) (xs : List Int) (hs : a.eval s = v) (hown : w.ownsRow base e 1 v xs.length (xs.map vint))
    (sv : Value) (ys : List Int) (hx : a.eval x = sv) (hsrc : Ints w sv ys)
    (hlen : xs.length + ys.length ≤ 1000000000) (hbase : base ≤ w.heap.size)
    (h : ∀ v' w', w'.ownsRow base e 1 v' (xs ++ ys).length ((xs ++ ys).map vint) → Below base w w' → w.grownBy w' v.ownBlock → (v'.ownBlock = none ↔ v.ownBlock = none ∧ ys = []) → wpListIn F n P ops Q rest (a.put o.dst v') w') : wpListIn F n P ops Q (o :: rest) a w := by
  refine wpListIn_plain hgd fun K hK' => ?_
  obtain ⟨v', w', hrun, r1, r2, r3⟩ := run_app (P := P) (w := w) (f := vint) t o.type base e _ 8 hE v xs hown sv ys hsrc (fun _ => rfl) (by omega) (by omega) hbase
  unfold Oper.wpIn
  refine ⟨?_, ?_⟩
  · simp [Oper.about, ho, resolve, Target.leads, Sem.run_pure]
  · rw [Oper.semAt_plain F _ _ (by rw [ho]; intro c hc'; cases hc')]
    simp [execOp, ho, resolve, invoke, builtin, hs, hx, hrun, Result.andThen]
    exact hK' _ _ (h v' w' r1 ((Below.refl _ _).grown r2 hbase fun k hk => (hown.lt k hk).1) r2 r3)

/-! ### A region that draws its order, whose operations only read, in a round of a range over a function -/
section
variable {P : Program} {ops : Array Oper} {C : World → Prop} {md : Region.Mode} {l n : Nat}
theorem wpInR_of_quiet {o : Oper} {a : Act} {K : Act → Prop} {K' : Act → World → Prop} {Q' : Exit → Act → World → Prop} {w : World} (hw : C w) (h : ∀ a w', C w' → K a → K' a w') (hnd : ∀ c, o.op ≠ .defer c) (hh : o.quiet P a C K) :
    o.wpIn (Fence.wide.inRound l) n P a w K' Q' := by
  obtain ⟨v, h1, h2⟩ := hh
  have h3 := h1 w hw
  unfold Oper.quietAt at h3
  unfold Oper.wpIn
  refine ⟨fun _ _ => trivial, ?_⟩
  rw [show (Fence.wide.inRound l).round = some l from rfl, Oper.semAt_some _ _ _ hnd]
  generalize (execOp a.eval o).run P w = r at *
  cases r with
  | ok x w' =>
    cases x <;> simp only [Oper.quietUpon] at h3 <;> simp only [Oper.uponIn]
    case value u =>
      obtain ⟨e1, e2⟩ := h3
      rw [e1, e2]
      exact h _ _ hw h2
    case skip =>
      obtain ⟨e1, e2⟩ := h3
      rw [e1, ← e2]
      exact h _ _ hw h2
    case enter f args =>
      obtain ⟨e1, hc⟩ := h3
      rw [e1]
      refine ⟨(fun hd => by cases hd), CallsIn.inRound l (callsIn_wide.2 (hc.mono fun e w'' ⟨he, hw''⟩ => ?_))⟩
      subst he
      exact h _ _ hw'' h2
  | halt x w' => simp only [Oper.quietUpon] at h3
theorem wpOpInR_of_qOp {i : Nat} {a : Act} {K : Act → Prop} {K' : Act → World → Prop} {Q' : Exit → Act → World → Prop} {w : World} (hC : C w) (h : ∀ a w', C w' → K a → K' a w') (hnd : ∀ o ∈ ops, ∀ c, o.op ≠ .defer c) (hh : qOp P ops C i K a) :
    wpOpIn (Fence.wide.inRound l) n P ops Q' i K' a w := by
  unfold qOp at hh
  unfold wpOpIn
  split
  · rename_i ho; simp only [ho] at hh; exact h _ _ hC hh
  · rename_i o ho
    simp only [ho] at hh
    split
    · rename_i hw; simp only [hw, if_true] at hh; exact wpInR_of_quiet hC h (hnd o (Array.mem_of_getElem? ho)) hh
    · rename_i hw; simp only [hw] at hh; exact ⟨fun _ _ => trivial, h _ _ hC hh⟩
theorem wpAnyInR_of_quiet {Q : Act → Prop} {Q' : Exit → Act → World → Prop} (hQ : ∀ a w, C w → Q a → Q' .normal a w) (hnd : ∀ o ∈ ops, ∀ c, o.op ≠ .defer c) : ∀ (fuel : Nat) (listed : Array Bool) (a : Act) (w : World), C w →
    wpAnyQ P md ops C Q fuel listed a → wpAnyIn (Fence.wide.inRound l) n P md ops Q' fuel listed a w
  | 0, _, _, _, hw, h => ⟨h.1, hQ _ _ hw h.2⟩
  | fuel + 1, _, _, _, hw, h => ⟨fun h0 => hQ _ _ hw (h.1 h0), fun i hi => wpOpInR_of_qOp hw (fun a' w' hw' => wpAnyInR_of_quiet hQ hnd fuel _ a' w' hw') hnd (h.2 i hi)⟩
def noDefer (ops : List Oper) : Bool := ops.all fun o => match o.op with | .defer _ => false | _ => true
theorem noDefer_spec {os : List Oper} (h : noDefer os = true) : ∀ o ∈ os.toArray, ∀ c, o.op ≠ .defer c := by
  intro o ho c hc
  have h1 := List.all_eq_true.1 h o (by simpa using ho)
  simp [hc] at h1
theorem wpR_region_quiet_lit {id : Nat} {Q : Exit → Act → World → Prop} {a : Act} {w : World} {os : List Oper} (hm : P.follows .mixedOrders = true) (hB : Region.lexB .any os.toArray = true) (hnd : noDefer os = true)
    (h : wpQuiet P os.toArray (fun w' => ∃ n, w' = w.drewN n) (fun a' => ∀ w', (∃ n, w' = w.drewN n) → Q .normal a' w') os a) : (Code.region id os.toArray true).wpIn (Fence.wide.inRound l) n P Q a w := by
  have hB' := hB
  simp only [Region.lexB, Bool.and_eq_true] at hB'
  refine wpIn_region_any hm (wpAnyInR_of_quiet (C := fun w' => ∃ n, w' = w.drewN n) (Q := fun a' => ∀ w', (∃ n, w' = w.drewN n) → Q .normal a' w') (fun _ w' hw' h => h w' hw') (noDefer_spec hnd) _ _ _ _ ⟨1, rfl⟩ ?_)
  have h2 := wpAnyQ_lex (P := P) (ops := os.toArray) (C := fun w' => ∃ n, w' = w.drewN n) (md := .any) hB'.1 os.toArray.toList 0 (Array.replicate os.toArray.size false) a (by simp) (by simpa using hB'.2) (by simpa using h)
  simpa using h2
end

/-- The marks that ranges over functions have left among a frame's deferred calls. -/
def Marks (B : Nat) (w : World) : List Deferred → Prop
  | [] => True
  | d :: ds => (∃ D, d = { target := .collected D, args := #[] } ∧ B ≤ D ∧ w.heap[D]? = some (.deferred (some [])) ∧ ∀ d' ∈ ds, d' ≠ d) ∧ Marks B w ds
theorem Marks.keep {B : Nat} {w w' : World} : ∀ {ds : List Deferred}, Marks B w ds → (∀ D, ({ target := .collected D, args := #[] } : Deferred) ∈ ds → w.heap[D]? = some (.deferred (some [])) → w'.heap[D]? = some (.deferred (some []))) → Marks B w' ds
  | [], _, _ => trivial
  | d :: ds, ⟨⟨D, hd, hB, hD, hne⟩, hr⟩, hk => ⟨⟨D, hd, hB, hk D (by rw [← hd]; simp) hD, hne⟩, Marks.keep hr fun D' hm h => hk D' (by simp [hm]) h⟩
theorem own_cells {w w' : World} {base e : Nat} {size n : Nat} {v : Value} {xs : List Value} (h : w.ownsRow base e size v n xs) (hk : ∀ (k : Nat) (o : Obj), w.heap[k]? = some o → o.isCells = true → w'.heap[k]? = some o) : w'.ownsRow base e size v n xs := by
  obtain ⟨h1, h2⟩ := h
  refine ⟨h1, ?_⟩
  rcases h2 with h2 | ⟨g, cap, cur, hv, hg, hh, r⟩
  · exact Or.inl h2
  · exact Or.inr ⟨g, cap, cur, hv, hg, hk _ _ hh rfl, r⟩
theorem isCells_deferred (c : Option (List Deferred)) : (Obj.deferred c).isCells = false := rfl
theorem leaves_marks {P : Program} {F : Fence} {n : Nat} {fn : Func} {tmps : Array Value} {R : Ending → World → Prop} (B : Nat) : ∀ (ds : List Deferred) (w : World), Marks B w ds →
    (∀ w' : World, Below B w w' → (∀ (k : Nat) (o : Obj), w.heap[k]? = some o → o.isCells = true → w'.heap[k]? = some o) → ∃ v, (results fn tmps).run P w' = .ok v w' ∧ R (.returned v) w') → LeavesInM F n P fn tmps R ds .returning w := by
  intro ds
  induction ds with
  | nil => intro w _ h; exact h w (Below.refl _ _) fun _ _ h _ => h
  | cons d ds ih =>
    rintro w ⟨⟨D, rfl, hB, hD, hne⟩, hm⟩ h
    refine ⟨by simp, .inl ⟨D, _, rfl, run_takeDeferred hD, ih _ (hm.keep fun D' hmem h' => ?_) fun w' hb hk => ?_⟩⟩
    · have hDD : D' ≠ D := by
        rintro rfl
        exact hne _ hmem rfl
      rw [World.putObj_heap_other hDD]; exact h'
    · have hb1 : Below B w (w.putObj D (.deferred none)) := (Below.refl B w).grown (grownBy_putObj' w D _) (by have := (Array.getElem?_eq_some_iff.1 hD).1; omega) (fun k e => by cases e; omega)
      refine h w' (hb1.trans hb) fun k o ho hc => hk k o ?_ hc
      have hkD : k ≠ D := by
        rintro rfl
        rw [hD] at ho
        cases ho
        cases hc
      rw [World.putObj_heap_other hkD]; exact ho

def offAt (b : List Int) (i : Fin b.length) : Array Value := #[.int .i64 ((i.1 : Int) - (b.length : Int) / 2), .int .i64 b[i.1]]
set_option maxRecDepth 100000 in
set_option maxHeartbeats 2000000 in
theorem offsets1_yields (b : List Int) (v : Value) (w0 w : World) (Bn n₀ : Nat) (hv : Ints w0 v b) (hbl : b.length ≤ 1000) (hBn : Bn < w.heap.size) (hn₀ : n₀ ≤ w.heap.size) (h0 : w0.heap.size ≤ n₀)
    (hb : Below w0.heap.size w0 w) (hc : w.cell? ⟨Bn, 0, none⟩ = some v) : Yields Try.prog 98 #[.pointer (some ⟨Bn, 0, none⟩)] b.length (offAt b) n₀ [Bn] w := by
  intro l J Jx W hW _ _ hY hJ0
  have hc' := (hW.cell (p := ⟨Bn, 0, none⟩) hBn).trans hc
  have hbW : Below w0.heap.size w0 W := hb.trans (hW.mono (Nat.le_trans h0 hn₀))
  obtain ⟨A, c, rfl, hlc, hcm, _, hr⟩ := arr_lt hv hbW
  unfold maxLen at hcm
  have hr' := Lib.hid hr
  clear hr
  refine callsIn_of_wp Try.func98 rfl trivial ?_ rfl
  simp only [Try.ntmps98, List.size_toArray, List.length_cons, List.length_nil, Nat.reduceAdd, Nat.reduceSub, Array.replicate_succ, Array.replicate_zero, List.push_toArray, List.append_toArray, List.nil_append, List.cons_append]
  gi_wp2
  gi_loopw [7] (fun i wr => ∃ k : Nat, k ≤ b.length ∧ i = .int .i64 k ∧ J ((List.finRange b.length).take k) wr ∧ Kept n₀ [Bn] W wr)
    (fun i _ => b.length - (intOf i).toNat)
  case atStart => exact ⟨0, Nat.zero_le _, rfl, hJ0, Kept.refl _ _ _⟩
  case round =>
    obtain ⟨k, hk, rfl, hJs, hnx⟩ := hrel
    by_cases hlt : k < b.length
    · obtain ⟨bb, off, rfl, hbb, hcc⟩ := hr'.out (by omega)
      have hck : wr.cell? ⟨bb, off + k, none⟩ = some (.int .i64 b[k]) := (hnx.1.cell (p := ⟨bb, off + k, none⟩) (by show bb < n₀; omega)).trans (hcc k hlt)
      have hcv := (hnx.cell (B := Bn) (i := 0) (by simp)).trans hc'
      obtain ⟨fn, tmps, assign, body, hy, hR⟩ := hY _ ⟨k, hlt⟩ wr hJs (by simp; omega)
      dsimp only [offAt] at hy
      have hcv' : wr.cell? ⟨Bn, 0, none⟩ = some (.slice (some ⟨bb, off, none⟩) b.length c) := hcv
      generalize b[k] = x at hck hy
      clear hcc hcv
      gi_wp2
      refine hR.mono ?_
      rintro e W3 (⟨rfl, hJ3, hk3⟩ | ⟨rfl, hJx3⟩)
      · gi_wp2
        go_roundw
        case rel => exact ⟨k + 1, by omega, by go_num, by rw [finRange_take_succ k hlt]; exact hJ3, hnx.trans hk3⟩
        case measure => simp [intOf]; omega
      · gi_wp2
        refine bodyPost_ret (results_none rfl _ _ _) rfl ?_
        exact ⟨⟨_, rfl⟩, .inr ⟨_, ⟨_, by rw [← finRange_take_succ k hlt]; exact List.take_append_drop _ _⟩, hJx3⟩⟩
    · obtain rfl : k = b.length := by omega
      gi_wp2
      go_end0
      exact ⟨⟨_, rfl⟩, .inl ⟨_, List.take_of_length_le (by simp), hJs⟩⟩
theorem pf_offsets (A : Option Addr) (n c : Nat) (w : World) :
    Calls Try.prog 95 #[.slice A n c] w fun e w' => e = .returned (.func (.func 98) #[] #[.pointer (some ⟨w.heap.size, 0, none⟩)]) ∧ w.alloc (.cells #[.slice A n c] 22) = w' := by
  have hmf : ∀ (fn : Fn) (first cap : Array Value) (w : World), (Instr.makeFunc fn first cap).run Try.prog w = .ok (.func fn first cap) w := fun _ _ _ _ => rfl
  go_enter Try.func95, Try.ntmps95
  go_wp2
  go_ret
  exact ⟨rfl, rfl⟩
end Go.Proofs.Ytbikpadjmmgpcaa
