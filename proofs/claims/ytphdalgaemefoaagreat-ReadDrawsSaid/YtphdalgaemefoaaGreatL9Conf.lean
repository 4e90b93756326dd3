/- Conflicts are bare: plain laws of ReadConflict. A picture with some of its readings alone: barleycornlaw09.only. What stands while a region of ReadConflict goes on: a list without an element by two appends, a picture made of it, its box. The law ReadConflict: its walk. -/
import Derived.Test.YtphdalgaemefoaaGreatRdSome
import Derived.Test.YtphdalgaemefoaaGreatRdConf
import Derived.Test.YtphdalgaemefoaaGreatRdSimV
import Derived.Test.YtphdalgaemefoaaGreatMonoR
import Derived.Test.YtphdalgaemefoaaGreatRdAlv
import Derived.Test.YtphdalgaemefoaaGreatRdStartR
import Derived.BigRegion
import Derived.BigQuiet
namespace Go.Proofs.YtphdalgaemefoaaGreat
set_option maxRecDepth 100000
set_option linter.unusedVariables false
theorem fitL_some {rds : List Rd} {lift : List Int} {t a : Int} : fitL rds lift t a ≠ [] ↔ ∃ x, inL (fitL rds lift t a) x := by
 constructor
 ·intro h
  obtain ⟨s, hs⟩ := List.exists_mem_of_ne_nil _ h
  exact ⟨s.1, s, hs, Int.le_refl _, (fitL_nm rds lift t a).1 s hs⟩
 ·rintro ⟨x, s, hs, -⟩ h
  rw [h] at hs
  cases hs
theorem fitL_mono {rds rds' : List Rd} {lift : List Int} {t a : Int} (h : ∀ r ∈ rds, r ∈ rds') (hf : fitL rds' lift t a ≠ []) : fitL rds lift t a ≠ [] := by
 obtain ⟨x, hx⟩ := fitL_some.1 hf
 obtain ⟨h1, h2⟩ := fitL_in.1 hx
 refine fitL_some.2 ⟨x, fitL_in.2 ⟨h1, fun cut hc => ?_⟩⟩
 obtain ⟨ph, h3, h4⟩ := h2 cut hc
 exact ⟨ph, h3, fun r hr => h4 r (h r hr)⟩
theorem someP_mono {p : Pic} {l l' : List Int} (h : ∀ i ∈ l, i ∈ l') (hs : someP p l' = true) : someP p l = true := by
 have hsub : ∀ r ∈ subR p.rds l, r ∈ subR p.rds l' := fun r hr => by
  obtain ⟨i, hi, rfl⟩ := List.mem_map.1 hr
  exact List.mem_map.2 ⟨i, h i hi, rfl⟩
 unfold someP anyB at hs ⊢
 simp only [List.any_eq_true] at hs ⊢
 obtain ⟨k, hk, t, ht, a, ha, hf⟩ := hs
 refine ⟨k, hk, t, ht, a, ha, ?_⟩
 have hf' : fitL (subR p.rds l') (p.lift k) t a ≠ [] := by intro e; have : fitL (p.with (subR p.rds l')).rds ((p.with (subR p.rds l')).lift k) t a = [] := e; rw [this] at hf; simp at hf
 have := fitL_mono hsub hf'
 show (!(fitL (subR p.rds l) (p.lift k) t a).isEmpty) = true
 simpa using this
theorem erase_erase {L : List Int} {k j : Nat} (h : k ≤ j) : ∀ i ∈ (L.eraseIdx k).eraseIdx j, i ∈ L.eraseIdx (j + 1) := fun i hi => by
 rw [List.mem_eraseIdx_iff_getElem?] at hi ⊢
 obtain ⟨m, hm, he⟩ := hi
 rw [List.getElem?_eraseIdx] at he
 split at he
 ·exact ⟨m, by omega, he⟩
 ·exact ⟨m + 1, by omega, he⟩
theorem confGo_step (p : Pic) (k : Nat) (L : List Int) : confGo p (k + 1) L = confGo p k (if someP p (L.eraseIdx k) then L else L.eraseIdx k) := rfl
theorem confGo_zero (p : Pic) (L : List Int) : confGo p 0 L = L := rfl
theorem confGo_bare (p : Pic) : ∀ (k : Nat) (L : List Int), someP p L = false → k ≤ L.length → (∀ j, k ≤ j → j < L.length → someP p (L.eraseIdx j) = true) →
  someP p (confGo p k L) = false ∧ (confGo p k L).Sublist L ∧ ∀ j, j < (confGo p k L).length → someP p ((confGo p k L).eraseIdx j) = true := by
 intro k
 induction k with
 | zero => intro L h _ hj; rw [confGo_zero]; exact ⟨h, List.Sublist.refl _, fun j h1 => hj j (Nat.zero_le _) h1⟩
 | succ k ih =>
  intro L h hk hj
  rw [confGo_step]
  obtain ⟨b, hs⟩ : ∃ b, someP p (L.eraseIdx k) = b := ⟨_, rfl⟩
  rw [hs]
  cases b with
  | true =>
   rw [if_pos rfl]
   refine ih L h (by omega) fun j h1 h2 => ?_
   by_cases e : j = k
   ·rw [e]; exact hs
   ·exact hj j (by omega) h2
  | false =>
   rw [if_neg (by decide)]
   have hl : (L.eraseIdx k).length = L.length - 1 := by rw [List.length_eraseIdx, if_pos (by omega)]
   obtain ⟨h1, h2, h3⟩ := ih (L.eraseIdx k) hs (by omega) fun j h1 h2 => someP_mono (erase_erase h1) (hj (j + 1) (by omega) (by omega))
   exact ⟨h1, h2.trans (List.eraseIdx_sublist _ _), h3⟩
theorem subR_idx (rds : List Rd) : subR rds (idxL rds.length) = rds := by
 unfold subR idxL
 apply List.ext_getElem (by simp)
 intro i h1 h2
 simp only [List.getElem_map, List.getElem_range, Int.toNat_natCast]
 rw [List.getD_eq_getElem?_getD, List.getElem?_eq_getElem h2]
 rfl
theorem someP_all (p : Pic) : someP p (idxL p.rds.length) = anyB p := by unfold someP; rw [subR_idx]; rfl
theorem someP_nil {p : Pic} (h : PicOk p) : someP p [] = true := by
 have h0 : 0 < p.hs.length := by have := h.heads; omega
 refine anyB_yes (p := p.with (subR p.rds [])) (h := 0) (t := p.tl) (a := p.al) h0 ⟨Int.le_refl _, h.tle⟩ ⟨Int.le_refl _, h.ale⟩ ?_
 refine fitL_some.2 ⟨0, fitL_in.2 ⟨⟨Int.le_refl _, by decide⟩, fun cut _ => ⟨0, ?_, fun r hr => by cases hr⟩⟩⟩
 show 0 < (liftL (p.hs.getD 0 default).ros (p.hs.getD 0 default).rub).length
 rw [liftL_length]
 have := h.steps.1
 exact Nat.lt_of_lt_of_le (by omega) this
theorem rise_of {n : Int} : ∀ {l : List Int} {last : Int}, (last :: l).Pairwise (· < ·) → (∀ i ∈ l, i < n) → riseB n last l = true
 | [], _, _, _ => rfl
 | a :: l, last, h, hn => by
  rw [List.pairwise_cons] at h
  unfold riseB
  rw [decide_eq_true (h.1 a (List.mem_cons_self)), decide_eq_true (hn a (List.mem_cons_self)), rise_of h.2 fun i hi => hn i (List.mem_cons_of_mem _ hi)]
  rfl
theorem idxL_pw (n : Nat) : (idxL n).Pairwise (· < ·) := by
 unfold idxL
 rw [List.pairwise_map]
 exact (List.pairwise_lt_range).imp fun h => by omega
theorem PicOk.sub {p : Pic} {rds : List Rd} (h : PicOk p) (h1 : ∀ r ∈ rds, r ∈ p.rds) (h2 : 1 ≤ rds.length ∧ rds.length ≤ 60) : PicOk (p.with rds) :=
 { heads := h.heads, reads := h2, head := h.head, tl := h.tl, tle := h.tle, th := h.th, al := h.al, ale := h.ale, ah := h.ah, span := h.span, rd := fun r hr => h.rd r (h1 r hr) }
theorem findE_sub {p : Pic} {l : List Int} (h : PicOk p) (h1 : ∀ i ∈ l, 0 ≤ i ∧ i < (p.rds.length : Int)) (h2 : 1 ≤ l.length) (h3 : l.length ≤ 60) : findE (p.with (subR p.rds l)) = 6 ↔ someP p l = false := by
 have hB : picB (p.with (subR p.rds l)) = true := picB_iff.2 (h.sub (subR_mem h1) (by rw [subR_length]; exact ⟨h2, h3⟩))
 unfold findE someP
 rw [hB, if_pos rfl]
 cases e : anyB (p.with (subR p.rds l)) with
 | true =>
  have := anyB_iff.1 e
  rw [if_neg this]
  split <;> simp
 | false =>
  have : foundL (p.with (subR p.rds l)) = [] := by
   apply Classical.byContradiction
   intro h9
   rw [anyB_iff.2 h9] at e
   cases e
  rw [if_pos this]
  simp
theorem conf_none {p : Pic} (hB : picB p = true) (h : findE p ≠ 6) : confE p = 6 ∧ confL p = [] := by
 have h1 : foundL p ≠ [] := fun e => h (by unfold findE; rw [hB, if_pos rfl, if_pos e])
 have e6 : confE p = 6 := by unfold confE; rw [hB, someP_all, anyB_iff.2 h1]; rfl
 exact ⟨e6, by unfold confL; rw [e6]; rfl⟩
theorem conf_bare {p : Pic} (hB : picB p = true) (h : findE p = 6) : confE p = 0 ∧ confL p ≠ [] ∧ (∀ i ∈ confL p, 0 ≤ i ∧ i < (p.rds.length : Int)) ∧ (confL p).length ≤ p.rds.length ∧ ccE p (confL p) = 0 ∧ findE (p.with (subR p.rds (confL p))) = 6 ∧
  ∀ k, k < (confL p).length → 2 ≤ (confL p).length → findE (p.with (subR p.rds ((confL p).eraseIdx k))) ≠ 6 := by
 have ok := picB_iff.1 hB
 have hno : anyB p = false := by
  rw [Bool.eq_false_iff]
  intro h9
  have := anyB_iff.1 h9
  unfold findE at h
  rw [hB, if_pos rfl, if_neg this] at h
  split at h <;> simp at h
 have h60 := ok.reads
 have e0 : confE p = 0 := by unfold confE; rw [hB, someP_all, hno]; rfl
 have el : confL p = confGo p p.rds.length (idxL p.rds.length) := by unfold confL; rw [e0]; rfl
 have hlen : (idxL p.rds.length).length = p.rds.length := by unfold idxL; simp
 obtain ⟨h1, h2, h3⟩ := confGo_bare p p.rds.length (idxL p.rds.length) (by rw [someP_all]; exact hno) (by omega) (fun j a b => by omega)
 rw [el]
 generalize confGo p p.rds.length (idxL p.rds.length) = L at h1 h2 h3
 have hne : L ≠ [] := fun e => by rw [e, someP_nil ok] at h1; cases h1
 have hmem : ∀ i ∈ L, 0 ≤ i ∧ i < (p.rds.length : Int) := fun i hi => by
  have := h2.mem hi
  unfold idxL at this
  obtain ⟨k, hk, rfl⟩ := List.mem_map.1 this
  have := List.mem_range.1 hk
  omega
 have hL : L.length ≤ p.rds.length := by have := h2.length_le; omega
 have hpos : 1 ≤ L.length := by cases L with | nil => exact absurd rfl hne | cons => simp
 have hr : riseB p.rds.length (-1) L = true := rise_of (List.pairwise_cons.2 ⟨fun i hi => by have := hmem i hi; omega, (idxL_pw _).sublist h2⟩) fun i hi => (hmem i hi).2
 refine ⟨e0, hne, hmem, hL, ccE_ok hB hr h1 h3, (findE_sub ok hmem hpos (by omega)).2 h1, fun k hk h2 h6 => ?_⟩
 have hle : (L.eraseIdx k).length = L.length - 1 := by rw [List.length_eraseIdx, if_pos hk]
 have := (findE_sub (l := L.eraseIdx k) ok (fun i hi => hmem i (List.mem_of_mem_eraseIdx hi)) (by omega) (by omega)).1 h6
 rw [h3 k hk] at this
 cases this
end Go.Proofs.YtphdalgaemefoaaGreat
namespace Go.Proofs.YtphdalgaemefoaaGreat
set_option maxRecDepth 100000
open Go.RowKit
set_option linter.unusedVariables false
set_option linter.unusedSimpArgs false
theorem step_appT {α : Type} {enc : α → List Value} {k bytes : Nat} {z : Value} {P : Program} {w : World} {ops : Array Oper} {o : Oper} {a : Act} {K : Act → World → Prop} {Q : Exit → Act → World → Prop} {E : Prop} (hgd : o.guard = none) (s x : Operand) (t : TypeId)
  (hk : ∀ x, (enc x).length = k) (h1c : ∀ x, ∀ u ∈ enc x, u.oneCell' = true) (hk0 : 0 < k) (hzs : z.cells.size = k) (hb8 : bytes ≤ 100)
  (ho : o.op = .call { callee := .builtin .append, args := #[s, x], argTypes := #[t, t] })
  (base : Nat) (e : TypeId) (ht : P.underlying t = some (.slice e)) (hinfo : (P.info? e).map (fun i => (i.zero, i.size, i.bytes)) = some (some z, k, bytes))
  (v : Value) (L : List α) (hs : a.eval s = v) (hown : w.ownsRow base e k v L.length (L.flatMap enc))
  (B : Nat) (y : α) (hx : a.eval x = .slice (some ⟨B, 0, none⟩) 1 1) (hc : ∀ i u, (enc y)[i]? = some u → w.cell? ⟨B, i, none⟩ = some u) (hlen : L.length ≤ 1000000) (hbase : base ≤ w.heap.size)
  (h : ∀ v' w', w'.ownsRow base e k v' (L ++ [y]).length ((L ++ [y]).flatMap enc) → w.grownBy w' v.ownBlock → (∀ j, v'.ownBlock = some j → v.ownBlock = some j ∨ w.heap.size ≤ j) → K (a.put o.dst v') w') :
  if Region.wanted o (yielded ops a.tmps) = true then Oper.wp P o a w K Q else E := by
 have hw : Region.wanted o (yielded ops a.tmps) = true := by simp [Region.wanted, hgd]
 rw [if_pos hw]
 obtain ⟨mi, hmi, hz0, hz1, hzb⟩ := info_parts hinfo
 obtain ⟨v', w', hr, h2, h3, h4, h5⟩ := run_append_ownB (P := P) w base t o.type e mi z k bytes ht hmi hz0 hz1 hzb hzs hk0 v L.length (L.flatMap enc) hown ⟨B, 0, none⟩ 1 1 (enc y) (by rw [hk, Nat.one_mul]) (fun j u hu => by
  have hadd : (⟨B, 0, none⟩ : Addr).add j = ⟨B, j, none⟩ := by unfold Addr.add; split <;> simp_all
  rw [hadd]
  exact hc j u hu) (h1c y) (by unfold maxLen; omega) (Nat.le_trans (Nat.mul_le_mul (show L.length + 1 ≤ 1000001 by omega) hb8) (by decide)) hbase
 unfold Oper.wp execOp
 simp only [ho, resolve, invoke, builtin, Sem.run_bind, Sem.run_pure, Result.andThen_ok, List.map_toArray, List.map_cons, List.map_nil, hs, hx, hr]
 exact h v' w' (by simpa using h2) h3 h5
end Go.Proofs.YtphdalgaemefoaaGreat
namespace Go.Proofs.YtphdalgaemefoaaGreat
set_option maxRecDepth 100000
open Go.RowKit
set_option linter.unusedVariables false
def belRel (n : Nat) : WRel := ⟨Below n, Below.refl n, fun a b => a.trans b, fun w => (Below.refl n w).drew⟩
structure GC (n0 : Nat) (A M : List Int) (N : Nat) (rds : List Rd) (c0 c1 c2 c3 c4 : Value) (D : Nat → Bool) (x : Nat → Value) (W : World) : Prop where
 o5 : D 5 = true → D 1 = true
 o10 : D 10 = true → D 5 = true
 o11 : D 11 = true → D 10 = true
 o12 : D 12 = true → D 11 = true
 o13 : D 13 = true → D 12 = true
 o14 : D 14 = true → D 12 = true
 o16 : D 16 = true → D 15 = true ∧ D 13 = true
 hz : n0 ≤ W.heap.size
 g1 : D 1 = true → D 5 = false → W.ownsRow n0 3 1 (x 1) 0 []
 g5 : D 5 = true → D 10 = false → W.ownsRow n0 3 1 (x 5) A.length (A.map vint)
 g10 : D 10 = true → D 11 = false → W.ownsRow n0 3 1 (x 10) M.length (M.map vint)
 g11 : D 11 = true → ∃ QA qc, x 11 = .tuple #[.agg #[c0, c1, c2, c3, c4, .slice QA N qc], .bool true] ∧ (D 12 = true → x 12 = .tuple #[.agg #[c0, c1, c2, c3, c4, .slice QA N qc], .bool true]) ∧ (D 13 = true → x 13 = .agg #[c0, c1, c2, c3, c4, .slice QA N qc]) ∧ (D 14 = true → x 14 = .bool true) ∧
  W.ownsRow n0 54 4 (.slice QA N qc) N (rds.flatMap rdEnc) ∧ (D 16 = true → ∃ X, x 15 = .pointer (some ⟨X, 0, none⟩) ∧ W.heap[X]? = some (.cells #[c0, c1, c2, c3, c4, .slice QA N qc] 25))
 g15 : D 15 = true → D 16 = false → ∃ X, x 15 = .pointer (some ⟨X, 0, none⟩) ∧ n0 ≤ X ∧ W.heap[X]? = some (.cells #[.slice none 0 0, .int .i64 0, .int .i64 0, .int .i64 0, .int .i64 0, .slice none 0 0] 25)
section
variable {n0 N : Nat} {A M : List Int} {rds : List Rd} {c0 c1 c2 c3 c4 : Value} {D : Nat → Bool} {x : Nat → Value} {W W' : World} {v : Value}
theorem cno {p : Prop} (h : false = true) : p := by cases h
theorem bfalse {a b : Bool} (h : a = true → b = true) (hb : b = false) : a = false := by cases a with | false => rfl | true => rw [h rfl] at hb; cases hb
theorem GC.le (h : GC n0 A M N rds c0 c1 c2 c3 c4 D x W) (hb : Below W.heap.size W W') : GC n0 A M N rds c0 c1 c2 c3 c4 D x W' := by
 refine ⟨h.o5, h.o10, h.o11, h.o12, h.o13, h.o14, h.o16, Nat.le_trans h.hz hb.size, fun a b => own_below (h.g1 a b) hb, fun a b => own_below (h.g5 a b) hb, fun a b => own_below (h.g10 a b) hb, fun a => ?_, fun a b => ?_⟩
 ·obtain ⟨QA, qc, e1, e2, e3, e4, e5, e6⟩ := h.g11 a
  exact ⟨QA, qc, e1, e2, e3, e4, own_below e5 hb, fun d => by obtain ⟨X, f1, f2⟩ := e6 d; exact ⟨X, f1, blk hb f2⟩⟩
 ·obtain ⟨X, f1, f2, f3⟩ := h.g15 a b
  exact ⟨X, f1, f2, blk hb f3⟩
theorem GC.start (w : World) : ∀ D x, (∀ j, j < 18 → D j = false) → GC w.heap.size A M N rds c0 c1 c2 c3 c4 D x { w with drawn := w.drawn + 1 } := fun D x h => by
 have f : ∀ {p : Prop} (j : Nat), j < 18 → D j = true → p := fun j hj e => (by rw [h j hj] at e; exact cno e)
 exact ⟨f 5 (by decide), f 10 (by decide), f 11 (by decide), f 12 (by decide), f 13 (by decide), f 14 (by decide), f 16 (by decide), Nat.le_refl _, f 1 (by decide), f 5 (by decide), f 10 (by decide), f 11 (by decide), f 15 (by decide)⟩
theorem GC.keep (i : Nat) (hi : (i == 0 || i == 2 || i == 3 || i == 4 || i == 6 || i == 7 || i == 8 || i == 9) = true) (h : GC n0 A M N rds c0 c1 c2 c3 c4 D x W) : GC n0 A M N rds c0 c1 c2 c3 c4 (updB D i) (updV x i v) W := by
 simp only [Bool.or_eq_true, beq_iff_eq] at hi
 rcases hi with ((((((rfl | rfl) | rfl) | rfl) | rfl) | rfl) | rfl) | rfl <;> exact ⟨h.o5, h.o10, h.o11, h.o12, h.o13, h.o14, h.o16, h.hz, h.g1, h.g5, h.g10, h.g11, h.g15⟩
theorem GC.make (h : GC n0 A M N rds c0 c1 c2 c3 c4 D x W) (hD : D 1 = false) : GC n0 A M N rds c0 c1 c2 c3 c4 (updB D 1) (updV x 1 (.slice (some ⟨W.heap.size, 0, none⟩) 0 0)) (W.alloc (.cells #[] 3)) := by
 have h5 := bfalse h.o5 hD
 have h10 := bfalse h.o10 h5
 have h11 := bfalse h.o11 h10
 have h2 := h.le (alc1 W (.cells #[] 3))
 exact ⟨fun e => (by rw [show updB D 1 5 = D 5 from rfl, h5] at e; exact cno e), h2.o10, h2.o11, h2.o12, h2.o13, h2.o14, h2.o16, h2.hz, fun _ _ => own_empty _ _ _ h.hz, h2.g5, h2.g10, h2.g11, h2.g15⟩
theorem box_grown {w w' : World} {base e size n X : Nat} {v : Value} {xs : List Value} {cs : Array Value} {t : TypeId} (h : w.ownsRow base e size v n xs) (hg : w.grownBy w' v.ownBlock) (hX : w.heap[X]? = some (.cells cs t)) (ht : e ≠ t) : w'.heap[X]? = some (.cells cs t) := by
 refine (hg.block X (gsl hX) (fun he => ?_)).trans hX
 rcases h.2 with ⟨rfl, _⟩ | ⟨g, cap, cur, rfl, -, hh, -⟩
 ·simp [Value.ownBlock] at he
 ·have : X = g := by simpa [Value.ownBlock] using he
  subst this
  rw [hX] at hh
  injection hh with hh
  injection hh with _ hh
  exact ht hh.symm
theorem GC.app1 (h : GC n0 A M N rds c0 c1 c2 c3 c4 D x W) (hD : D 5 = false) (h1 : D 1 = true) (hg : W.grownBy W' (x 1).ownBlock) (ho : W'.ownsRow n0 3 1 v A.length (A.map vint)) : GC n0 A M N rds c0 c1 c2 c3 c4 (updB D 5) (updV x 5 v) W' := by
 have h10 := bfalse h.o10 hD
 have h11 := bfalse h.o11 h10
 have h13 := bfalse h.o13 (bfalse h.o12 h11)
 have h16 : D 16 = false := bfalse (fun e => (h.o16 e).2) h13
 have hb := own_bel (h.g1 h1 hD) hg h.hz
 refine ⟨fun _ => h1, fun e => (by rw [show updB D 5 10 = D 10 from rfl, h10] at e; exact cno e), h.o11, h.o12, h.o13, h.o14, h.o16, Nat.le_trans h.hz hb.size, fun _ e => cno e.symm, fun _ _ => ho, fun e => (by rw [show updB D 5 10 = D 10 from rfl, h10] at e; exact cno e), fun e => (by rw [show updB D 5 11 = D 11 from rfl, h11] at e; exact cno e), fun a b => ?_⟩
 obtain ⟨X, f1, f2, f3⟩ := h.g15 a b
 exact ⟨X, f1, f2, box_grown (h.g1 h1 hD) hg f3 (by decide)⟩
theorem GC.app2 (h : GC n0 A M N rds c0 c1 c2 c3 c4 D x W) (hD : D 10 = false) (h5 : D 5 = true) (hg : W.grownBy W' (x 5).ownBlock) (ho : W'.ownsRow n0 3 1 v M.length (M.map vint)) : GC n0 A M N rds c0 c1 c2 c3 c4 (updB D 10) (updV x 10 v) W' := by
 have h11 := bfalse h.o11 hD
 have hb := own_bel (h.g5 h5 hD) hg h.hz
 refine ⟨h.o5, fun _ => h5, fun e => (by rw [show updB D 10 11 = D 11 from rfl, h11] at e; exact cno e), h.o12, h.o13, h.o14, h.o16, Nat.le_trans h.hz hb.size, fun a b => (by rw [show updB D 10 5 = D 5 from rfl, h5] at b; exact cno b.symm), fun _ e => cno e.symm, fun _ _ => ho, fun e => (by rw [show updB D 10 11 = D 11 from rfl, h11] at e; exact cno e), fun a b => ?_⟩
 obtain ⟨X, f1, f2, f3⟩ := h.g15 a b
 exact ⟨X, f1, f2, box_grown (h.g5 h5 hD) hg f3 (by decide)⟩
theorem GC.call {QA : Option Addr} {qc : Nat} (h : GC n0 A M N rds c0 c1 c2 c3 c4 D x W) (hD : D 11 = false) (h10 : D 10 = true) (hb : Below W.heap.size W W') (ho : W'.ownsRow W.heap.size 54 4 (.slice QA N qc) N (rds.flatMap rdEnc)) :
  GC n0 A M N rds c0 c1 c2 c3 c4 (updB D 11) (updV x 11 (.tuple #[.agg #[c0, c1, c2, c3, c4, .slice QA N qc], .bool true])) W' := by
 have h12 := bfalse h.o12 hD
 have h13 := bfalse h.o13 h12
 have h14 := bfalse h.o14 h12
 have h16 : D 16 = false := bfalse (fun e => (h.o16 e).2) h13
 have h2 := h.le hb
 refine ⟨h2.o5, h2.o10, fun _ => h10, fun e => (by rw [show updB D 11 12 = D 12 from rfl, h12] at e; exact cno e), h2.o13, h2.o14, h2.o16, h2.hz, h2.g1, h2.g5, fun _ e => cno e.symm, fun _ => ⟨QA, qc, rfl, fun e => ?_, fun e => ?_, fun e => ?_, own_base ho h.hz, fun e => ?_⟩, h2.g15⟩
 ·rw [show updB D 11 12 = D 12 from rfl, h12] at e; exact cno e
 ·rw [show updB D 11 13 = D 13 from rfl, h13] at e; exact cno e
 ·rw [show updB D 11 14 = D 14 from rfl, h14] at e; exact cno e
 ·rw [show updB D 11 16 = D 16 from rfl, h16] at e; exact cno e
theorem GC.mv12 (h : GC n0 A M N rds c0 c1 c2 c3 c4 D x W) (hD : D 12 = false) (h11 : D 11 = true) : GC n0 A M N rds c0 c1 c2 c3 c4 (updB D 12) (updV x 12 (x 11)) W := by
 refine ⟨h.o5, h.o10, h.o11, fun _ => h11, fun _ => rfl, fun _ => rfl, h.o16, h.hz, h.g1, h.g5, h.g10, fun _ => ?_, h.g15⟩
 obtain ⟨QA, qc, e1, e2, e3, e4, e5, e6⟩ := h.g11 h11
 exact ⟨QA, qc, e1, fun _ => e1, e3, e4, e5, e6⟩
theorem GC.ext13 (h : GC n0 A M N rds c0 c1 c2 c3 c4 D x W) (hD : D 13 = false) (h12 : D 12 = true) : ∃ QA qc, x 12 = .tuple #[.agg #[c0, c1, c2, c3, c4, .slice QA N qc], .bool true] ∧ GC n0 A M N rds c0 c1 c2 c3 c4 (updB D 13) (updV x 13 (.agg #[c0, c1, c2, c3, c4, .slice QA N qc])) W := by
 obtain ⟨QA, qc, e1, e2, e3, e4, e5, e6⟩ := h.g11 (h.o12 h12)
 exact ⟨QA, qc, e2 h12, h.o5, h.o10, h.o11, h.o12, fun _ => h12, h.o14, fun e => ⟨(h.o16 e).1, rfl⟩, h.hz, h.g1, h.g5, h.g10, fun _ => ⟨QA, qc, e1, e2, fun _ => rfl, e4, e5, e6⟩, h.g15⟩
theorem GC.ext14 (h : GC n0 A M N rds c0 c1 c2 c3 c4 D x W) (hD : D 14 = false) (h12 : D 12 = true) : ∃ u, x 12 = .tuple #[u, .bool true] ∧ GC n0 A M N rds c0 c1 c2 c3 c4 (updB D 14) (updV x 14 (.bool true)) W := by
 obtain ⟨QA, qc, e1, e2, e3, e4, e5, e6⟩ := h.g11 (h.o12 h12)
 exact ⟨_, e2 h12, h.o5, h.o10, h.o11, h.o12, h.o13, fun _ => h12, h.o16, h.hz, h.g1, h.g5, h.g10, fun _ => ⟨QA, qc, e1, e2, e3, fun _ => rfl, e5, e6⟩, h.g15⟩
theorem GC.box (h : GC n0 A M N rds c0 c1 c2 c3 c4 D x W) (hD : D 15 = false) :
  GC n0 A M N rds c0 c1 c2 c3 c4 (updB D 15) (updV x 15 (.pointer (some ⟨W.heap.size, 0, none⟩))) (W.alloc (.cells #[.slice none 0 0, .int .i64 0, .int .i64 0, .int .i64 0, .int .i64 0, .slice none 0 0] 25)) := by
 have h16 : D 16 = false := bfalse (fun e => (h.o16 e).1) hD
 have h2 := h.le (alc1 W (.cells #[.slice none 0 0, .int .i64 0, .int .i64 0, .int .i64 0, .int .i64 0, .slice none 0 0] 25))
 refine ⟨h2.o5, h2.o10, h2.o11, h2.o12, h2.o13, h2.o14, fun e => (by rw [show updB D 15 16 = D 16 from rfl, h16] at e; exact cno e), h2.hz, h2.g1, h2.g5, h2.g10, fun e => ?_, fun _ _ => ⟨_, rfl, h.hz, alc_at _ _⟩⟩
 obtain ⟨QA, qc, e1, e2, e3, e4, e5, e6⟩ := h2.g11 e
 exact ⟨QA, qc, e1, e2, e3, e4, e5, fun e => (by rw [show updB D 15 16 = D 16 from rfl, h16] at e; exact cno e)⟩
theorem GC.store (h : GC n0 A M N rds c0 c1 c2 c3 c4 D x W) (hD : D 16 = false) (h13 : D 13 = true) (h15 : D 15 = true) : ∃ QA qc X, x 13 = .agg #[c0, c1, c2, c3, c4, .slice QA N qc] ∧ x 15 = .pointer (some ⟨X, 0, none⟩) ∧ n0 ≤ X ∧ W.heap[X]? = some (.cells #[.slice none 0 0, .int .i64 0, .int .i64 0, .int .i64 0, .int .i64 0, .slice none 0 0] 25) ∧
  ∀ v, GC n0 A M N rds c0 c1 c2 c3 c4 (updB D 16) (updV x 16 v) ((((((W.setCell ⟨X, 0, none⟩ c0).setCell ⟨X, 1, none⟩ c1).setCell ⟨X, 2, none⟩ c2).setCell ⟨X, 3, none⟩ c3).setCell ⟨X, 4, none⟩ c4).setCell ⟨X, 5, none⟩ (.slice QA N qc)) := by
 have h12 := h.o13 h13
 have h11 := h.o12 h12
 have h10 := h.o11 h11
 have h5 := h.o10 h10
 obtain ⟨QA, qc, e1, e2, e3, e4, e5, e6⟩ := h.g11 h11
 obtain ⟨X, f1, f2, f3⟩ := h.g15 h15 hD
 have hne : ∀ r, (Value.slice QA N qc).ownBlock = some r → r ≠ X := fun r hr he => by
  subst he
  rcases e5.2 with ⟨q, _⟩ | ⟨g, cap, cur, q, -, hh, -⟩
  ·rw [q] at hr; simp [Value.ownBlock] at hr
  ·rw [q] at hr
   have : r = g := by simpa [Value.ownBlock] using hr.symm
   subst this
   rw [f3] at hh
   injection hh with hh
   injection hh with _ hh
   exact absurd hh (by decide)
 refine ⟨QA, qc, X, e3 h13, f1, f2, f3, fun v => ⟨h.o5, h.o10, h.o11, h.o12, h.o13, h.o14, fun _ => ⟨h15, h13⟩, by simpa using h.hz, fun a b => ?_, fun a b => ?_, fun a b => ?_, fun _ => ⟨QA, qc, e1, e2, e3, e4, ?_, fun _ => ⟨X, f1, pset6 f3 _ _ _ _ _ _⟩⟩, fun _ e => cno e.symm⟩⟩
 ·rw [show updB D 16 5 = D 5 from rfl, h5] at b; exact cno b.symm
 ·rw [show updB D 16 10 = D 10 from rfl, h10] at b; exact cno b.symm
 ·rw [show updB D 16 11 = D 11 from rfl, h11] at b; exact cno b.symm
 ·exact own_other (own_other (own_other (own_other (own_other (own_other e5 hne _) hne _) hne _) hne _) hne _) hne _
theorem GC.fin (h : GC n0 A M N rds c0 c1 c2 c3 c4 D x W) (h16 : D 16 = true) (h14 : D 14 = true) : x 14 = .bool true ∧ ∃ QA qc X, x 15 = .pointer (some ⟨X, 0, none⟩) ∧ W.heap[X]? = some (.cells #[c0, c1, c2, c3, c4, .slice QA N qc] 25) ∧ W.ownsRow n0 54 4 (.slice QA N qc) N (rds.flatMap rdEnc) := by
 obtain ⟨QA, qc, e1, e2, e3, e4, e5, e6⟩ := h.g11 (h.o12 (h.o14 h14))
 obtain ⟨X, f1, f2⟩ := e6 h16
 exact ⟨e4 h14, QA, qc, X, f1, f2, e5⟩
end
end Go.Proofs.YtphdalgaemefoaaGreat
namespace Go.Proofs.YtphdalgaemefoaaGreat
set_option maxRecDepth 100000
open Go.RowKit
set_option linter.unusedVariables false
set_option linter.unusedSimpArgs false
end Go.Proofs.YtphdalgaemefoaaGreat
