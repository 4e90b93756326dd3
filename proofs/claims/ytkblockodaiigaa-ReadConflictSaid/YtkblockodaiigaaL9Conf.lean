/- Conflicts are bare: plain laws of ReadConflict. A picture with some of its readings alone: barleycornlaw09.only. What stands while a region of ReadConflict goes on: a list without an element by two appends, a picture made of it, its box. The law ReadConflict: its walk. -/
import Derived.Test.YtkblockodaiigaaRdSome
import Derived.Test.YtkblockodaiigaaRdConf
import Derived.Test.YtkblockodaiigaaRdSimV
import Derived.Test.YtkblockodaiigaaMonoR
import Derived.Test.YtkblockodaiigaaRdAlv
import Derived.Test.YtkblockodaiigaaRdGrtR
import Derived.BigRegion
import Derived.BigQuiet
namespace Go.Proofs.Ytkblockodaiigaa
set_option maxRecDepth 100000
set_option maxHeartbeats 1000000
set_option linter.unusedVariables false
theorem fitL_some {rds : List Rd} {lift : List Int} {t a : Int} : fitL rds lift t a ≠ [] ↔ ∃ x, inL (fitL rds lift t a) x := by
 constructor
 ·intro h
  obtain ⟨s, hs⟩ := List.exists_mem_of_ne_nil _ h
  exact ⟨s.1, s, hs, Int.le_refl _, (fitL_nm rds lift t a).1 s hs⟩
 ·rintro ⟨x, s, hs, -⟩ h
  rw [h] at hs
  cases hs
theorem fitL_mono {rds rds' : List Rd} {lift : List Int} {t a : Int} (h : ∀ r ∈ rds, r ∈ rds') (hf : fitL rds' lift t a ≠ []) : fitL rds lift t a ≠ [] := by
 obtain ⟨x, hx⟩ := fitL_some.1 hf
 obtain ⟨h1, h2⟩ := fitL_in.1 hx
 refine fitL_some.2 ⟨x, fitL_in.2 ⟨h1, fun cut hc => ?_⟩⟩
 obtain ⟨ph, h3, h4⟩ := h2 cut hc
 exact ⟨ph, h3, fun r hr => h4 r (h r hr)⟩
theorem someP_mono {p : Pic} {l l' : List Int} (h : ∀ i ∈ l, i ∈ l') (hs : someP p l' = true) : someP p l = true := by
 have hsub : ∀ r ∈ subR p.rds l, r ∈ subR p.rds l' := fun r hr => by
  obtain ⟨i, hi, rfl⟩ := List.mem_map.1 hr
  exact List.mem_map.2 ⟨i, h i hi, rfl⟩
 unfold someP anyB at hs ⊢
 simp only [List.any_eq_true] at hs ⊢
 obtain ⟨k, hk, t, ht, a, ha, hf⟩ := hs
 refine ⟨k, hk, t, ht, a, ha, ?_⟩
 have hf' : fitL (subR p.rds l') (p.lift k) t a ≠ [] := by intro e; have : fitL (p.with (subR p.rds l')).rds ((p.with (subR p.rds l')).lift k) t a = [] := e; rw [this] at hf; simp at hf
 have := fitL_mono hsub hf'
 show (!(fitL (subR p.rds l) (p.lift k) t a).isEmpty) = true
 simpa using this
theorem erase_erase {L : List Int} {k j : Nat} (h : k ≤ j) : ∀ i ∈ (L.eraseIdx k).eraseIdx j, i ∈ L.eraseIdx (j + 1) := fun i hi => by
 rw [List.mem_eraseIdx_iff_getElem?] at hi ⊢
 obtain ⟨m, hm, he⟩ := hi
 rw [List.getElem?_eraseIdx] at he
 split at he
 ·exact ⟨m, by omega, he⟩
 ·exact ⟨m + 1, by omega, he⟩
theorem confGo_step (p : Pic) (k : Nat) (L : List Int) : confGo p (k + 1) L = confGo p k (if someP p (L.eraseIdx k) then L else L.eraseIdx k) := rfl
theorem confGo_zero (p : Pic) (L : List Int) : confGo p 0 L = L := rfl
theorem confGo_bare (p : Pic) : ∀ (k : Nat) (L : List Int), someP p L = false → k ≤ L.length → (∀ j, k ≤ j → j < L.length → someP p (L.eraseIdx j) = true) →
  someP p (confGo p k L) = false ∧ (confGo p k L).Sublist L ∧ ∀ j, j < (confGo p k L).length → someP p ((confGo p k L).eraseIdx j) = true := by
 intro k
 induction k with
 | zero => intro L h _ hj; rw [confGo_zero]; exact ⟨h, List.Sublist.refl _, fun j h1 => hj j (Nat.zero_le _) h1⟩
 | succ k ih =>
  intro L h hk hj
  rw [confGo_step]
  obtain ⟨b, hs⟩ : ∃ b, someP p (L.eraseIdx k) = b := ⟨_, rfl⟩
  rw [hs]
  cases b with
  | true =>
   rw [if_pos rfl]
   refine ih L h (by omega) fun j h1 h2 => ?_
   by_cases e : j = k
   ·rw [e]; exact hs
   ·exact hj j (by omega) h2
  | false =>
   rw [if_neg (by decide)]
   have hl : (L.eraseIdx k).length = L.length - 1 := by rw [List.length_eraseIdx, if_pos (by omega)]
   obtain ⟨h1, h2, h3⟩ := ih (L.eraseIdx k) hs (by omega) fun j h1 h2 => someP_mono (erase_erase h1) (hj (j + 1) (by omega) (by omega))
   exact ⟨h1, h2.trans (List.eraseIdx_sublist _ _), h3⟩
theorem subR_idx (rds : List Rd) : subR rds (idxL rds.length) = rds := by
 unfold subR idxL
 apply List.ext_getElem (by simp)
 intro i h1 h2
 simp only [List.getElem_map, List.getElem_range, Int.toNat_natCast]
 rw [List.getD_eq_getElem?_getD, List.getElem?_eq_getElem h2]
 rfl
theorem someP_all (p : Pic) : someP p (idxL p.rds.length) = anyB p := by unfold someP; rw [subR_idx]; rfl
theorem someP_nil {p : Pic} (h : PicOk p) : someP p [] = true := by
 have h0 : 0 < p.hs.length := by have := h.heads; omega
 refine anyB_yes (p := p.with (subR p.rds [])) (h := 0) (t := p.tl) (a := p.al) h0 ⟨Int.le_refl _, h.tle⟩ ⟨Int.le_refl _, h.ale⟩ ?_
 refine fitL_some.2 ⟨0, fitL_in.2 ⟨⟨Int.le_refl _, by decide⟩, fun cut _ => ⟨0, ?_, fun r hr => by cases hr⟩⟩⟩
 show 0 < (liftL (p.hs.getD 0 default).ros (p.hs.getD 0 default).rub).length
 rw [liftL_length]
 have := h.steps.1
 exact Nat.lt_of_lt_of_le (by omega) this
theorem rise_of {n : Int} : ∀ {l : List Int} {last : Int}, (last :: l).Pairwise (· < ·) → (∀ i ∈ l, i < n) → riseB n last l = true
 | [], _, _, _ => rfl
 | a :: l, last, h, hn => by
  rw [List.pairwise_cons] at h
  unfold riseB
  rw [decide_eq_true (h.1 a (List.mem_cons_self)), decide_eq_true (hn a (List.mem_cons_self)), rise_of h.2 fun i hi => hn i (List.mem_cons_of_mem _ hi)]
  rfl
theorem idxL_pw (n : Nat) : (idxL n).Pairwise (· < ·) := by
 unfold idxL
 rw [List.pairwise_map]
 exact (List.pairwise_lt_range).imp fun h => by omega
theorem PicOk.sub {p : Pic} {rds : List Rd} (h : PicOk p) (h1 : ∀ r ∈ rds, r ∈ p.rds) (h2 : 1 ≤ rds.length ∧ rds.length ≤ 60) : PicOk (p.with rds) :=
 { heads := h.heads, reads := h2, head := h.head, tl := h.tl, tle := h.tle, th := h.th, al := h.al, ale := h.ale, ah := h.ah, span := h.span, rd := fun r hr => h.rd r (h1 r hr) }
theorem findE_sub {p : Pic} {l : List Int} (h : PicOk p) (h1 : ∀ i ∈ l, 0 ≤ i ∧ i < (p.rds.length : Int)) (h2 : 1 ≤ l.length) (h3 : l.length ≤ 60) : findE (p.with (subR p.rds l)) = 6 ↔ someP p l = false := by
 have hB : picB (p.with (subR p.rds l)) = true := picB_iff.2 (h.sub (subR_mem h1) (by rw [subR_length]; exact ⟨h2, h3⟩))
 unfold findE someP
 rw [hB, if_pos rfl]
 cases e : anyB (p.with (subR p.rds l)) with
 | true =>
  have := anyB_iff.1 e
  rw [if_neg this]
  split <;> simp
 | false =>
  have : foundL (p.with (subR p.rds l)) = [] := by
   apply Classical.byContradiction
   intro h9
   rw [anyB_iff.2 h9] at e
   cases e
  rw [if_pos this]
  simp
theorem conf_none {p : Pic} (hB : picB p = true) (h : findE p ≠ 6) : confE p = 6 ∧ confL p = [] := by
 have h1 : foundL p ≠ [] := fun e => h (by unfold findE; rw [hB, if_pos rfl, if_pos e])
 have e6 : confE p = 6 := by unfold confE; rw [hB, someP_all, anyB_iff.2 h1]; rfl
 exact ⟨e6, by unfold confL; rw [e6]; rfl⟩
theorem conf_bare {p : Pic} (hB : picB p = true) (h : findE p = 6) : confE p = 0 ∧ confL p ≠ [] ∧ (∀ i ∈ confL p, 0 ≤ i ∧ i < (p.rds.length : Int)) ∧ (confL p).length ≤ p.rds.length ∧ ccE p (confL p) = 0 ∧ findE (p.with (subR p.rds (confL p))) = 6 ∧
  ∀ k, k < (confL p).length → 2 ≤ (confL p).length → findE (p.with (subR p.rds ((confL p).eraseIdx k))) ≠ 6 := by
 have ok := picB_iff.1 hB
 have hno : anyB p = false := by
  rw [Bool.eq_false_iff]
  intro h9
  have := anyB_iff.1 h9
  unfold findE at h
  rw [hB, if_pos rfl, if_neg this] at h
  split at h <;> simp at h
 have h60 := ok.reads
 have e0 : confE p = 0 := by unfold confE; rw [hB, someP_all, hno]; rfl
 have el : confL p = confGo p p.rds.length (idxL p.rds.length) := by unfold confL; rw [e0]; rfl
 have hlen : (idxL p.rds.length).length = p.rds.length := by unfold idxL; simp
 obtain ⟨h1, h2, h3⟩ := confGo_bare p p.rds.length (idxL p.rds.length) (by rw [someP_all]; exact hno) (by omega) (fun j a b => by omega)
 rw [el]
 generalize confGo p p.rds.length (idxL p.rds.length) = L at h1 h2 h3
 have hne : L ≠ [] := fun e => by rw [e, someP_nil ok] at h1; cases h1
 have hmem : ∀ i ∈ L, 0 ≤ i ∧ i < (p.rds.length : Int) := fun i hi => by
  have := h2.mem hi
  unfold idxL at this
  obtain ⟨k, hk, rfl⟩ := List.mem_map.1 this
  have := List.mem_range.1 hk
  omega
 have hL : L.length ≤ p.rds.length := by have := h2.length_le; omega
 have hpos : 1 ≤ L.length := by cases L with | nil => exact absurd rfl hne | cons => simp
 have hr : riseB p.rds.length (-1) L = true := rise_of (List.pairwise_cons.2 ⟨fun i hi => by have := hmem i hi; omega, (idxL_pw _).sublist h2⟩) fun i hi => (hmem i hi).2
 refine ⟨e0, hne, hmem, hL, ccE_ok hB hr h1 h3, (findE_sub ok hmem hpos (by omega)).2 h1, fun k hk h2 h6 => ?_⟩
 have hle : (L.eraseIdx k).length = L.length - 1 := by rw [List.length_eraseIdx, if_pos hk]
 have := (findE_sub (l := L.eraseIdx k) ok (fun i hi => hmem i (List.mem_of_mem_eraseIdx hi)) (by omega) (by omega)).1 h6
 rw [h3 k hk] at this
 cases this
end Go.Proofs.Ytkblockodaiigaa
namespace Go.Proofs.Ytkblockodaiigaa
set_option maxRecDepth 100000
set_option maxHeartbeats 1000000
open Go.RowKit
set_option linter.unusedVariables false
set_option linter.unusedSimpArgs false
theorem step_appT {α : Type} {enc : α → List Value} {k bytes : Nat} {z : Value} {P : Program} {w : World} {ops : Array Oper} {o : Oper} {a : Act} {K : Act → World → Prop} {Q : Exit → Act → World → Prop} {E : Prop} (hgd : o.guard = none) (s x : Operand) (t : TypeId)
  (hk : ∀ x, (enc x).length = k) (h1c : ∀ x, ∀ u ∈ enc x, u.oneCell' = true) (hk0 : 0 < k) (hzs : z.cells.size = k) (hb8 : bytes ≤ 100)
  (ho : o.op = .call { callee := .builtin .append, args := #[s, x], argTypes := #[t, t] })
  (base : Nat) (e : TypeId) (ht : P.underlying t = some (.slice e)) (hinfo : (P.info? e).map (fun i => (i.zero, i.size, i.bytes)) = some (some z, k, bytes))
  (v : Value) (L : List α) (hs : a.eval s = v) (hown : w.ownsRow base e k v L.length (L.flatMap enc))
  (B : Nat) (y : α) (hx : a.eval x = .slice (some ⟨B, 0, none⟩) 1 1) (hc : ∀ i u, (enc y)[i]? = some u → w.cell? ⟨B, i, none⟩ = some u) (hlen : L.length ≤ 1000000) (hbase : base ≤ w.heap.size)
  (h : ∀ v' w', w'.ownsRow base e k v' (L ++ [y]).length ((L ++ [y]).flatMap enc) → w.grownBy w' v.ownBlock → (∀ j, v'.ownBlock = some j → v.ownBlock = some j ∨ w.heap.size ≤ j) → K (a.put o.dst v') w') :
  if Region.wanted o (yielded ops a.tmps) = true then Oper.wp P o a w K Q else E := by
 have hw : Region.wanted o (yielded ops a.tmps) = true := by simp [Region.wanted, hgd]
 rw [if_pos hw]
 obtain ⟨mi, hmi, hz0, hz1, hzb⟩ := info_parts hinfo
 obtain ⟨v', w', hr, h2, h3, h4, h5⟩ := run_append_ownB (P := P) w base t o.type e mi z k bytes ht hmi hz0 hz1 hzb hzs hk0 v L.length (L.flatMap enc) hown ⟨B, 0, none⟩ 1 1 (enc y) (by rw [hk, Nat.one_mul]) (fun j u hu => by
  have hadd : (⟨B, 0, none⟩ : Addr).add j = ⟨B, j, none⟩ := by unfold Addr.add; split <;> simp_all
  rw [hadd]
  exact hc j u hu) (h1c y) (by unfold maxLen; omega) (Nat.le_trans (Nat.mul_le_mul (show L.length + 1 ≤ 1000001 by omega) hb8) (by decide)) hbase
 unfold Oper.wp execOp
 simp only [ho, resolve, invoke, builtin, Sem.run_bind, Sem.run_pure, Result.andThen_ok, List.map_toArray, List.map_cons, List.map_nil, hs, hx, hr]
 exact h v' w' (by simpa using h2) h3 h5
structure OnI (w : World) (c0 c1 c2 c3 c4 c5 : Value) (rds : List Rd) (l : List Int) (k : Nat) (vo : Value) (W : World) : Prop where
 bw : Below w.heap.size w W
 kp : W.heap[w.heap.size]? = some (.cells #[c0, c1, c2, c3, c4, c5] 25)
 kz : W.heap[w.heap.size + 1]? = some (.cells #[.slice none 0 0, .int .i64 0, .int .i64 0, .int .i64 0, .int .i64 0, .slice none 0 0] 25)
 kq : W.heap[w.heap.size + 1 + 1]? = some (.cells #[c0, c1, c2, c3, c4, vo] 25)
 ho : W.ownsRow (w.heap.size + 3) 65 4 vo k ((subR rds (l.take k)).flatMap rdEnc)
 hz : w.heap.size + 3 ≤ W.heap.size
theorem OnI.next {w W V : World} {c0 c1 c2 c3 c4 c5 vo : Value} {rds : List Rd} {l : List Int} {k : Nat} (h : OnI w c0 c1 c2 c3 c4 c5 rds l k vo W) (hb : Below W.heap.size W V) : OnI w c0 c1 c2 c3 c4 c5 rds l k vo V :=
 ⟨bel_set h.bw hb, blk hb h.kp, blk hb h.kz, blk hb h.kq, own_below h.ho hb, Nat.le_trans h.hz hb.size⟩
theorem OnI.put {w W V : World} {c0 c1 c2 c3 c4 c5 vo v7 : Value} {rds : List Rd} {l : List Int} {k : Nat} (h : OnI w c0 c1 c2 c3 c4 c5 rds l k vo W) (hb : Below (w.heap.size + 3) W V) (ho : V.ownsRow (w.heap.size + 3) 65 4 v7 (k + 1) ((subR rds (l.take (k + 1))).flatMap rdEnc)) :
  OnI w c0 c1 c2 c3 c4 c5 rds l (k + 1) v7 (V.setCell ⟨w.heap.size + 1 + 1, 5, none⟩ v7) := by
 have e0 := (hb.block w.heap.size (by omega)).trans h.kp
 have e1 := (hb.block (w.heap.size + 1) (by omega)).trans h.kz
 have e2 := (hb.block (w.heap.size + 1 + 1) (by omega)).trans h.kq
 have hbV : Below w.heap.size w V := h.bw.trans (hb.mono (by omega))
 exact ⟨hbV.setCell (p := ⟨w.heap.size + 1 + 1, 5, none⟩) (by show w.heap.size ≤ w.heap.size + 1 + 1; omega) _, (Below.heap_setCell V ⟨w.heap.size + 1 + 1, 5, none⟩ _ _ (by show w.heap.size ≠ w.heap.size + 1 + 1; omega)).trans e0,
  (Below.heap_setCell V ⟨w.heap.size + 1 + 1, 5, none⟩ _ _ (by show w.heap.size + 1 ≠ w.heap.size + 1 + 1; omega)).trans e1, heap_set e2 5 _, own_apart ho (by omega) _, by have := hb.size; have := h.hz; simp; omega⟩
theorem OnI.start (w : World) (c0 c1 c2 c3 c4 c5 : Value) (rds : List Rd) (l : List Int) : OnI w c0 c1 c2 c3 c4 c5 rds l 0 (.slice none 0 0)
  (((w.alloc (.cells #[c0, c1, c2, c3, c4, c5] 25)).alloc (.cells #[.slice none 0 0, .int .i64 0, .int .i64 0, .int .i64 0, .int .i64 0, .slice none 0 0] 25)).alloc (.cells #[c0, c1, c2, c3, c4, .slice none 0 0] 25)) := by
 obtain ⟨W1, e1, b1, k1⟩ := newb w (.cells #[c0, c1, c2, c3, c4, c5] 25)
 obtain ⟨W2, e2, b2, k2⟩ := newb W1 (.cells #[.slice none 0 0, .int .i64 0, .int .i64 0, .int .i64 0, .int .i64 0, .slice none 0 0] 25)
 obtain ⟨W3, e3, b3, k3⟩ := newb W2 (.cells #[c0, c1, c2, c3, c4, .slice none 0 0] 25)
 have z1 : W1.heap.size = w.heap.size + 1 := by rw [← e1]; simp
 have z2 : W2.heap.size = w.heap.size + 1 + 1 := by rw [← e2]; simp [z1]
 have z3 : W3.heap.size = w.heap.size + 3 := by rw [← e3]; simp [z2]
 rw [e1, e2, e3]
 rw [z1] at k2
 rw [z2] at k3
 exact ⟨bel_set (bel_set b1 b2) b3, blk b3 (blk b2 k1), blk b3 k2, k3, World.ownsRow_nil _ _ _ _, by omega⟩
theorem pf_l9_onlyR (HA : Option Addr) (hc : Nat) (RA : Option Addr) (rc : Nat) (vl : Value) (p : Pic) (l : List Int) (w : World) (hh : HeadsL w (.slice HA p.hs.length hc) p.hs) (hr : RdsL w (.slice RA p.rds.length rc) p.rds) (hvl : Ints w vl l) (hl : ∀ i ∈ l, 0 ≤ i ∧ i < (p.rds.length : Int)) (h60 : l.length ≤ 60) :
  Calls Try.prog 31 #[.agg #[.slice HA p.hs.length hc, .int .i64 p.tl, .int .i64 p.th, .int .i64 p.al, .int .i64 p.ah, .slice RA p.rds.length rc], vl] w fun e w' => ∃ QA qc, e = .returned (.tuple #[.agg #[.slice HA p.hs.length hc, .int .i64 p.tl, .int .i64 p.th, .int .i64 p.al, .int .i64 p.ah, .slice QA l.length qc], .bool true]) ∧ Below w.heap.size w w' ∧ w'.ownsRow w.heap.size 65 4 (.slice QA l.length qc) l.length ((subR p.rds l).flatMap rdEnc) := by
 have hhl : p.hs.length ≤ maxLen := by obtain ⟨A, c, e, h⟩ := hh.slice; exact h
 have hrl : p.rds.length ≤ maxLen := by obtain ⟨A, c, e, h⟩ := hr.slice; exact h
 unfold maxLen at hhl hrl
 obtain ⟨LA, lc, rfl, hlc, hlm, -, hlr⟩ := id hvl
 unfold maxLen at hlm
 clear hlr
 have ⟨hh', hr', hvl', hl'⟩ := hyd4 hh hr hvl hl
 clear hl hvl hr hh
 go_enter Try.func31, Try.ntmps31
 go_wp2_with (fail)
 go_loopw [13, 8] (fun kx _ wr => ∃ (k : Nat) (vo : Value), k ≤ l.length ∧ kx = .int .i64 (k : Int) ∧ Hid (OnI w (.slice HA p.hs.length hc) (.int .i64 p.tl) (.int .i64 p.th) (.int .i64 p.al) (.int .i64 p.ah) (.slice RA p.rds.length rc) p.rds l k vo wr)) (fun kx _ _ => l.length - (intOf kx).toNat)
 case atStart =>
  exact ⟨0, .slice none 0 0, Nat.zero_le _, rfl, Lib.hid (OnI.start _ _ _ _ _ _ _ _ _)⟩
 case round =>
  obtain ⟨k, vo, hk, rfl, hI⟩ := hrel
  obtain ⟨hbw, kp, kz, kq, ho, hz⟩ := hI.out
  obtain ⟨AO, cO, rfl⟩ := slice_formR ho
  by_cases hlt : k < l.length
  ·obtain ⟨b, off, c2, heq, hbl, -, -, hcell⟩ := Ints.cells (hvl'.out.below hbw) (by omega)
   injection heq with e1 e2 e3
   subst e1 e3
   clear e2
   have hci := hcell k hlt
   have hil := hl'.out _ (List.getElem_mem hlt)
   obtain ⟨i, hi⟩ : ∃ i : Nat, l[k] = (i : Int) := ⟨l[k].toNat, by omega⟩
   have htk := subR_take (rds := p.rds) hlt (by omega)
   rw [hi] at hci hil
   simp only [hi, Int.toNat_natCast] at htk
   have hir : i < p.rds.length := by omega
   obtain ⟨b1, o1, z1, heq, hb1l, g0, g1, g2, g3⟩ := RdsL.cells (hr'.out.le hbw) hir
   injection heq with e1 e2 e3
   subst e1 e3
   clear e2
   obtain ⟨⟨r1, r2, r3, r4⟩, hrr⟩ : ∃ r, p.rds[i] = r := ⟨_, rfl⟩
   rw [hrr] at g0 g1 g2 g3 htk
   dsimp only at g0 g1 g2 g3
   obtain ⟨-, -, -, -, -, cp5⟩ := pc6 kp
   obtain ⟨-, -, -, -, -, cq5⟩ := pc6 kq
   obtain ⟨na0, na1, na2, na3⟩ := pc4 (newb wr.drew (.cells #[.int .i64 r1, .int .i64 r2, .int .i64 r3, .int .i64 r4] 65)).choose_spec.2.2
   have hba : Below wr.heap.size wr (wr.drew.alloc (.cells #[.int .i64 r1, .int .i64 r2, .int .i64 r3, .int .i64 r4] 65)) := ((Below.refl wr.heap.size wr).drew).alloc (show wr.heap.size ≤ wr.drew.heap.size from Nat.le_refl _) _
   have ka : (wr.drew.alloc (.cells #[.int .i64 r1, .int .i64 r2, .int .i64 r3, .int .i64 r4] 65)).heap[wr.heap.size]? = some (.cells #[.int .i64 r1, .int .i64 r2, .int .i64 r3, .int .i64 r4] 65) := alc_at wr.drew _
   clear na0 na1 na2 na3
   obtain ⟨na0, na1, na2, na3⟩ := pc4 ka
   have hnew : ∀ (i : Nat) (u : Value), (rdEnc ⟨r1, r2, r3, r4⟩)[i]? = some u → (wr.drew.alloc (.cells #[.int .i64 r1, .int .i64 r2, .int .i64 r3, .int .i64 r4] 65)).cell? ⟨wr.heap.size, i, none⟩ = some u := fun i u hu => by
    have hi4 : i < 4 := (List.getElem?_eq_some_iff.1 hu).1
    match i, hi4 with
    | 0, _ => rw [na0]; simpa [rdEnc] using hu
    | 1, _ => rw [na1]; simpa [rdEnc] using hu
    | 2, _ => rw [na2]; simpa [rdEnc] using hu
    | 3, _ => rw [na3]; simpa [rdEnc] using hu
   have hIa := hI.out.next hba
   have hlk : (subR p.rds (l.take k)).length = k := by rw [subR_length, List.length_take]; omega
   have j1 : (k : Int) < (l.length : Int) := by omega
   have j2 : (0 : Int) ≤ (k : Int) := by omega
   have j3 : (i : Int) < (p.rds.length : Int) := by omega
   have j4 : (0 : Int) ≤ (i : Int) := by omega
   have j5 : decide ((p.rds.length : Int) ≤ (i : Int)) = false := decide_eq_false (by omega)
   have j6 : decide ((i : Int) < 0) = false := decide_eq_false (by omega)
   clear na0 na1 na2 na3
   have z0 : w.heap.size < wr.heap.size := by omega
   have z2 : w.heap.size + 1 + 1 < wr.heap.size := by omega
   have fq5 := pfrz kq 5
   have ⟨hI', hbw', kp', kz', kq', ho', hz', hcell'⟩ := hyd8 hI hbw kp kz kq ho hz hcell
   have ⟨htk', hrr', hba', ka', hnew', hIa', hlk', hi'⟩ := hyd8 htk hrr hba ka hnew hIa hlk hi
   clear hi hlk hIa hnew ka hba hrr htk hcell hz ho kq kz kp hbw hI
   go_wp2_with (fail)
   go_region_law (refine step_appT (enc := rdEnc) (k := 4) (bytes := 32) rfl _ _ 23 (fun _ => rfl) (fun x u hu => by simp [rdEnc] at hu; rcases hu with rfl | rfl | rfl | rfl <;> rfl) (by decide) rfl (by decide) rfl (w.heap.size + 3) 65 Try.underlying23 rdgInfo (.slice AO k cO) (subR p.rds (l.take k)) rfl (by rw [hlk'.out]; exact hIa'.out.ho) wr.heap.size ⟨r1, r2, r3, r4⟩ rfl hnew'.out (by rw [hlk'.out]; omega) hIa'.out.hz ?_; intro v7 w7 q1 q2 q3; have hbl7 := own_bel hIa'.out.ho q2 hIa'.out.hz; have kq7 := (hbl7.block (w.heap.size + 1 + 1) (by omega)).trans hIa'.out.kq; obtain ⟨-, -, -, -, -, cq7⟩ := pc6 kq7; have fq7 := pfrz kq7 5; have q1b : w7.ownsRow (w.heap.size + 3) 65 4 v7 (k + 1) ((subR p.rds (l.take (k + 1))).flatMap rdEnc) := (by rw [List.length_append, List.length_singleton, hlk'.out] at q1; rw [htk'.out]; exact q1); obtain ⟨A7, c7, rfl⟩ := slice_formR q1b; have hN := hIa'.out.put hbl7 q1b; have hN' := Lib.hid hN; clear hN q1 q2 q3 hbl7 kq7 q1b)
   all_goals
    go_wp2
    go_roundw
    case rel => exact ⟨k + 1, _, by omega, by go_num, hN'⟩
    case measure => simp [intOf]; omega
  ·obtain rfl : k = l.length := by omega
   rw [List.take_length] at ho
   obtain ⟨c0, c1, c2, c3, c4, c5⟩ := pc6 kq
   have fg0 := pfrz kz 0
   have fg1 := pfrz kz 1
   have fg2 := pfrz kz 2
   have fg3 := pfrz kz 3
   have fg4 := pfrz kz 4
   have fg5 := pfrz kz 5
   obtain ⟨y0, y1, y2, y3, y4, y5⟩ := pc6 kz
   have hsr := subR_length p.rds l
   obtain ⟨W9, hW9, hb9, k9, hg9⟩ : ∃ V, ((((((wr.setCell ⟨w.heap.size + 1, 0, none⟩ (.slice HA p.hs.length hc)).setCell ⟨w.heap.size + 1, 1, none⟩ (.int .i64 p.tl)).setCell ⟨w.heap.size + 1, 2, none⟩ (.int .i64 p.th)).setCell ⟨w.heap.size + 1, 3, none⟩ (.int .i64 p.al)).setCell ⟨w.heap.size + 1, 4, none⟩ (.int .i64 p.ah)).setCell ⟨w.heap.size + 1, 5, none⟩ (.slice AO l.length cO)) = V ∧ Below w.heap.size w V ∧ V.heap[w.heap.size + 1]? = some (.cells #[.slice HA p.hs.length hc, .int .i64 p.tl, .int .i64 p.th, .int .i64 p.al, .int .i64 p.ah, .slice AO l.length cO] 25) ∧ V.ownsRow w.heap.size 65 4 (.slice AO l.length cO) l.length ((subR p.rds l).flatMap rdEnc) :=
    ⟨_, rfl, pset6b hbw (by omega) _ _ _ _ _ _, pset6 kz _ _ _ _ _ _, own_keep6 ho (by omega) (by omega)⟩
   obtain ⟨d0, d1, d2, d3, d4, d5⟩ := pc6 k9
   have ⟨hI', hbw', kp', kz', kq', ho', hz', hb9'⟩ := hyd8 hI hbw kp kz kq ho hz hb9
   have ⟨k9', hg9', hsr'⟩ := hyd3 k9 hg9 hsr
   clear hsr hg9 k9 hb9 hz ho kq kz kp hbw hI
   go_wp2
   exact bodyPost_ret (v := .tuple #[.agg #[.slice HA p.hs.length hc, .int .i64 p.tl, .int .i64 p.th, .int .i64 p.al, .int .i64 p.ah, .slice AO l.length cO], .bool true]) (by simp [results, Try.results31, go_sem, d0, d1, d2, d3, d4, d5]) rfl ⟨_, _, rfl, hb9'.out, hg9'.out⟩
theorem only_pic {HA : Option Addr} {hc : Nat} {QA : Option Addr} {qc base : Nat} {p : Pic} {l : List Int} {w' : World} (hh : HeadsL w' (.slice HA p.hs.length hc) p.hs) (ho : w'.ownsRow base 65 4 (.slice QA l.length qc) l.length ((subR p.rds l).flatMap rdEnc)) :
  IsPic w' (.agg #[.slice HA p.hs.length hc, .int .i64 p.tl, .int .i64 p.th, .int .i64 p.al, .int .i64 p.ah, .slice QA l.length qc]) (p.with (subR p.rds l)) :=
 ⟨_, _, rfl, hh, SV.of_own (base := base) (e := 65) (enc := rdEnc) (fun _ => rfl) (by show World.ownsRow _ _ _ _ _ (subR p.rds l).length _; rw [subR_length]; exact ho)⟩
theorem pf_l9_only (v vl : Value) (p : Pic) (l : List Int) (w : World) (hp : IsPic w v p) (hvl : Ints w vl l) (hl : ∀ i ∈ l, 0 ≤ i ∧ i < (p.rds.length : Int)) (h60 : l.length ≤ 60) :
  Calls Try.prog 31 #[v, vl] w fun e w' => ∃ v', e = .returned (.tuple #[v', .bool true]) ∧ Below w.heap.size w w' ∧ IsPic w' v' (p.with (subR p.rds l)) := by
 obtain ⟨vh, vr, rfl, hh, hr⟩ := hp
 obtain ⟨HA, hc, rfl, -⟩ := hh.slice
 obtain ⟨RA, rc, rfl, -⟩ := hr.slice
 refine (pf_l9_onlyR HA hc RA rc vl p l w hh hr hvl hl h60).mono ?_
 rintro e w' ⟨QA, qc, rfl, hb, ho⟩
 exact ⟨_, rfl, hb, only_pic (hh.le hb) ho⟩
end Go.Proofs.Ytkblockodaiigaa
namespace Go.Proofs.Ytkblockodaiigaa
set_option maxRecDepth 100000
set_option maxHeartbeats 1000000
open Go.RowKit
set_option linter.unusedVariables false
def belRel (n : Nat) : WRel := ⟨Below n, Below.refl n, fun a b => a.trans b, fun w => (Below.refl n w).drew⟩
structure GC (n0 : Nat) (A M : List Int) (N : Nat) (rds : List Rd) (c0 c1 c2 c3 c4 : Value) (D : Nat → Bool) (x : Nat → Value) (W : World) : Prop where
 o5 : D 5 = true → D 1 = true
 o10 : D 10 = true → D 5 = true
 o11 : D 11 = true → D 10 = true
 o12 : D 12 = true → D 11 = true
 o13 : D 13 = true → D 12 = true
 o14 : D 14 = true → D 12 = true
 o16 : D 16 = true → D 15 = true ∧ D 13 = true
 hz : n0 ≤ W.heap.size
 g1 : D 1 = true → D 5 = false → W.ownsRow n0 3 1 (x 1) 0 []
 g5 : D 5 = true → D 10 = false → W.ownsRow n0 3 1 (x 5) A.length (A.map vint)
 g10 : D 10 = true → D 11 = false → W.ownsRow n0 3 1 (x 10) M.length (M.map vint)
 g11 : D 11 = true → ∃ QA qc, x 11 = .tuple #[.agg #[c0, c1, c2, c3, c4, .slice QA N qc], .bool true] ∧ (D 12 = true → x 12 = .tuple #[.agg #[c0, c1, c2, c3, c4, .slice QA N qc], .bool true]) ∧ (D 13 = true → x 13 = .agg #[c0, c1, c2, c3, c4, .slice QA N qc]) ∧ (D 14 = true → x 14 = .bool true) ∧
  W.ownsRow n0 65 4 (.slice QA N qc) N (rds.flatMap rdEnc) ∧ (D 16 = true → ∃ X, x 15 = .pointer (some ⟨X, 0, none⟩) ∧ W.heap[X]? = some (.cells #[c0, c1, c2, c3, c4, .slice QA N qc] 25))
 g15 : D 15 = true → D 16 = false → ∃ X, x 15 = .pointer (some ⟨X, 0, none⟩) ∧ n0 ≤ X ∧ W.heap[X]? = some (.cells #[.slice none 0 0, .int .i64 0, .int .i64 0, .int .i64 0, .int .i64 0, .slice none 0 0] 25)
section
variable {n0 N : Nat} {A M : List Int} {rds : List Rd} {c0 c1 c2 c3 c4 : Value} {D : Nat → Bool} {x : Nat → Value} {W W' : World} {v : Value}
theorem cno {p : Prop} (h : false = true) : p := by cases h
theorem bfalse {a b : Bool} (h : a = true → b = true) (hb : b = false) : a = false := by cases a with | false => rfl | true => rw [h rfl] at hb; cases hb
theorem GC.le (h : GC n0 A M N rds c0 c1 c2 c3 c4 D x W) (hb : Below W.heap.size W W') : GC n0 A M N rds c0 c1 c2 c3 c4 D x W' := by
 refine ⟨h.o5, h.o10, h.o11, h.o12, h.o13, h.o14, h.o16, Nat.le_trans h.hz hb.size, fun a b => own_below (h.g1 a b) hb, fun a b => own_below (h.g5 a b) hb, fun a b => own_below (h.g10 a b) hb, fun a => ?_, fun a b => ?_⟩
 ·obtain ⟨QA, qc, e1, e2, e3, e4, e5, e6⟩ := h.g11 a
  exact ⟨QA, qc, e1, e2, e3, e4, own_below e5 hb, fun d => by obtain ⟨X, f1, f2⟩ := e6 d; exact ⟨X, f1, blk hb f2⟩⟩
 ·obtain ⟨X, f1, f2, f3⟩ := h.g15 a b
  exact ⟨X, f1, f2, blk hb f3⟩
theorem GC.start (w : World) : ∀ D x, (∀ j, j < 18 → D j = false) → GC w.heap.size A M N rds c0 c1 c2 c3 c4 D x { w with drawn := w.drawn + 1 } := fun D x h => by
 have f : ∀ {p : Prop} (j : Nat), j < 18 → D j = true → p := fun j hj e => (by rw [h j hj] at e; exact cno e)
 exact ⟨f 5 (by decide), f 10 (by decide), f 11 (by decide), f 12 (by decide), f 13 (by decide), f 14 (by decide), f 16 (by decide), Nat.le_refl _, f 1 (by decide), f 5 (by decide), f 10 (by decide), f 11 (by decide), f 15 (by decide)⟩
theorem GC.keep (i : Nat) (hi : (i == 0 || i == 2 || i == 3 || i == 4 || i == 6 || i == 7 || i == 8 || i == 9) = true) (h : GC n0 A M N rds c0 c1 c2 c3 c4 D x W) : GC n0 A M N rds c0 c1 c2 c3 c4 (updB D i) (updV x i v) W := by
 simp only [Bool.or_eq_true, beq_iff_eq] at hi
 rcases hi with ((((((rfl | rfl) | rfl) | rfl) | rfl) | rfl) | rfl) | rfl <;> exact ⟨h.o5, h.o10, h.o11, h.o12, h.o13, h.o14, h.o16, h.hz, h.g1, h.g5, h.g10, h.g11, h.g15⟩
theorem GC.make (h : GC n0 A M N rds c0 c1 c2 c3 c4 D x W) (hD : D 1 = false) : GC n0 A M N rds c0 c1 c2 c3 c4 (updB D 1) (updV x 1 (.slice (some ⟨W.heap.size, 0, none⟩) 0 0)) (W.alloc (.cells #[] 3)) := by
 have h5 := bfalse h.o5 hD
 have h10 := bfalse h.o10 h5
 have h11 := bfalse h.o11 h10
 have h2 := h.le (alc1 W (.cells #[] 3))
 exact ⟨fun e => (by rw [show updB D 1 5 = D 5 from rfl, h5] at e; exact cno e), h2.o10, h2.o11, h2.o12, h2.o13, h2.o14, h2.o16, h2.hz, fun _ _ => own_empty _ _ _ h.hz, h2.g5, h2.g10, h2.g11, h2.g15⟩
theorem box_grown {w w' : World} {base e size n X : Nat} {v : Value} {xs : List Value} {cs : Array Value} {t : TypeId} (h : w.ownsRow base e size v n xs) (hg : w.grownBy w' v.ownBlock) (hX : w.heap[X]? = some (.cells cs t)) (ht : e ≠ t) : w'.heap[X]? = some (.cells cs t) := by
 refine (hg.block X (gsl hX) (fun he => ?_)).trans hX
 rcases h.2 with ⟨rfl, _⟩ | ⟨g, cap, cur, rfl, -, hh, -⟩
 ·simp [Value.ownBlock] at he
 ·have : X = g := by simpa [Value.ownBlock] using he
  subst this
  rw [hX] at hh
  injection hh with hh
  injection hh with _ hh
  exact ht hh.symm
theorem GC.app1 (h : GC n0 A M N rds c0 c1 c2 c3 c4 D x W) (hD : D 5 = false) (h1 : D 1 = true) (hg : W.grownBy W' (x 1).ownBlock) (ho : W'.ownsRow n0 3 1 v A.length (A.map vint)) : GC n0 A M N rds c0 c1 c2 c3 c4 (updB D 5) (updV x 5 v) W' := by
 have h10 := bfalse h.o10 hD
 have h11 := bfalse h.o11 h10
 have h13 := bfalse h.o13 (bfalse h.o12 h11)
 have h16 : D 16 = false := bfalse (fun e => (h.o16 e).2) h13
 have hb := own_bel (h.g1 h1 hD) hg h.hz
 refine ⟨fun _ => h1, fun e => (by rw [show updB D 5 10 = D 10 from rfl, h10] at e; exact cno e), h.o11, h.o12, h.o13, h.o14, h.o16, Nat.le_trans h.hz hb.size, fun _ e => cno e.symm, fun _ _ => ho, fun e => (by rw [show updB D 5 10 = D 10 from rfl, h10] at e; exact cno e), fun e => (by rw [show updB D 5 11 = D 11 from rfl, h11] at e; exact cno e), fun a b => ?_⟩
 obtain ⟨X, f1, f2, f3⟩ := h.g15 a b
 exact ⟨X, f1, f2, box_grown (h.g1 h1 hD) hg f3 (by decide)⟩
theorem GC.app2 (h : GC n0 A M N rds c0 c1 c2 c3 c4 D x W) (hD : D 10 = false) (h5 : D 5 = true) (hg : W.grownBy W' (x 5).ownBlock) (ho : W'.ownsRow n0 3 1 v M.length (M.map vint)) : GC n0 A M N rds c0 c1 c2 c3 c4 (updB D 10) (updV x 10 v) W' := by
 have h11 := bfalse h.o11 hD
 have hb := own_bel (h.g5 h5 hD) hg h.hz
 refine ⟨h.o5, fun _ => h5, fun e => (by rw [show updB D 10 11 = D 11 from rfl, h11] at e; exact cno e), h.o12, h.o13, h.o14, h.o16, Nat.le_trans h.hz hb.size, fun a b => (by rw [show updB D 10 5 = D 5 from rfl, h5] at b; exact cno b.symm), fun _ e => cno e.symm, fun _ _ => ho, fun e => (by rw [show updB D 10 11 = D 11 from rfl, h11] at e; exact cno e), fun a b => ?_⟩
 obtain ⟨X, f1, f2, f3⟩ := h.g15 a b
 exact ⟨X, f1, f2, box_grown (h.g5 h5 hD) hg f3 (by decide)⟩
theorem GC.call {QA : Option Addr} {qc : Nat} (h : GC n0 A M N rds c0 c1 c2 c3 c4 D x W) (hD : D 11 = false) (h10 : D 10 = true) (hb : Below W.heap.size W W') (ho : W'.ownsRow W.heap.size 65 4 (.slice QA N qc) N (rds.flatMap rdEnc)) :
  GC n0 A M N rds c0 c1 c2 c3 c4 (updB D 11) (updV x 11 (.tuple #[.agg #[c0, c1, c2, c3, c4, .slice QA N qc], .bool true])) W' := by
 have h12 := bfalse h.o12 hD
 have h13 := bfalse h.o13 h12
 have h14 := bfalse h.o14 h12
 have h16 : D 16 = false := bfalse (fun e => (h.o16 e).2) h13
 have h2 := h.le hb
 refine ⟨h2.o5, h2.o10, fun _ => h10, fun e => (by rw [show updB D 11 12 = D 12 from rfl, h12] at e; exact cno e), h2.o13, h2.o14, h2.o16, h2.hz, h2.g1, h2.g5, fun _ e => cno e.symm, fun _ => ⟨QA, qc, rfl, fun e => ?_, fun e => ?_, fun e => ?_, own_base ho h.hz, fun e => ?_⟩, h2.g15⟩
 ·rw [show updB D 11 12 = D 12 from rfl, h12] at e; exact cno e
 ·rw [show updB D 11 13 = D 13 from rfl, h13] at e; exact cno e
 ·rw [show updB D 11 14 = D 14 from rfl, h14] at e; exact cno e
 ·rw [show updB D 11 16 = D 16 from rfl, h16] at e; exact cno e
theorem GC.mv12 (h : GC n0 A M N rds c0 c1 c2 c3 c4 D x W) (hD : D 12 = false) (h11 : D 11 = true) : GC n0 A M N rds c0 c1 c2 c3 c4 (updB D 12) (updV x 12 (x 11)) W := by
 refine ⟨h.o5, h.o10, h.o11, fun _ => h11, fun _ => rfl, fun _ => rfl, h.o16, h.hz, h.g1, h.g5, h.g10, fun _ => ?_, h.g15⟩
 obtain ⟨QA, qc, e1, e2, e3, e4, e5, e6⟩ := h.g11 h11
 exact ⟨QA, qc, e1, fun _ => e1, e3, e4, e5, e6⟩
theorem GC.ext13 (h : GC n0 A M N rds c0 c1 c2 c3 c4 D x W) (hD : D 13 = false) (h12 : D 12 = true) : ∃ QA qc, x 12 = .tuple #[.agg #[c0, c1, c2, c3, c4, .slice QA N qc], .bool true] ∧ GC n0 A M N rds c0 c1 c2 c3 c4 (updB D 13) (updV x 13 (.agg #[c0, c1, c2, c3, c4, .slice QA N qc])) W := by
 obtain ⟨QA, qc, e1, e2, e3, e4, e5, e6⟩ := h.g11 (h.o12 h12)
 exact ⟨QA, qc, e2 h12, h.o5, h.o10, h.o11, h.o12, fun _ => h12, h.o14, fun e => ⟨(h.o16 e).1, rfl⟩, h.hz, h.g1, h.g5, h.g10, fun _ => ⟨QA, qc, e1, e2, fun _ => rfl, e4, e5, e6⟩, h.g15⟩
theorem GC.ext14 (h : GC n0 A M N rds c0 c1 c2 c3 c4 D x W) (hD : D 14 = false) (h12 : D 12 = true) : ∃ u, x 12 = .tuple #[u, .bool true] ∧ GC n0 A M N rds c0 c1 c2 c3 c4 (updB D 14) (updV x 14 (.bool true)) W := by
 obtain ⟨QA, qc, e1, e2, e3, e4, e5, e6⟩ := h.g11 (h.o12 h12)
 exact ⟨_, e2 h12, h.o5, h.o10, h.o11, h.o12, h.o13, fun _ => h12, h.o16, h.hz, h.g1, h.g5, h.g10, fun _ => ⟨QA, qc, e1, e2, e3, fun _ => rfl, e5, e6⟩, h.g15⟩
theorem GC.box (h : GC n0 A M N rds c0 c1 c2 c3 c4 D x W) (hD : D 15 = false) :
  GC n0 A M N rds c0 c1 c2 c3 c4 (updB D 15) (updV x 15 (.pointer (some ⟨W.heap.size, 0, none⟩))) (W.alloc (.cells #[.slice none 0 0, .int .i64 0, .int .i64 0, .int .i64 0, .int .i64 0, .slice none 0 0] 25)) := by
 have h16 : D 16 = false := bfalse (fun e => (h.o16 e).1) hD
 have h2 := h.le (alc1 W (.cells #[.slice none 0 0, .int .i64 0, .int .i64 0, .int .i64 0, .int .i64 0, .slice none 0 0] 25))
 refine ⟨h2.o5, h2.o10, h2.o11, h2.o12, h2.o13, h2.o14, fun e => (by rw [show updB D 15 16 = D 16 from rfl, h16] at e; exact cno e), h2.hz, h2.g1, h2.g5, h2.g10, fun e => ?_, fun _ _ => ⟨_, rfl, h.hz, alc_at _ _⟩⟩
 obtain ⟨QA, qc, e1, e2, e3, e4, e5, e6⟩ := h2.g11 e
 exact ⟨QA, qc, e1, e2, e3, e4, e5, fun e => (by rw [show updB D 15 16 = D 16 from rfl, h16] at e; exact cno e)⟩
theorem GC.store (h : GC n0 A M N rds c0 c1 c2 c3 c4 D x W) (hD : D 16 = false) (h13 : D 13 = true) (h15 : D 15 = true) : ∃ QA qc X, x 13 = .agg #[c0, c1, c2, c3, c4, .slice QA N qc] ∧ x 15 = .pointer (some ⟨X, 0, none⟩) ∧ n0 ≤ X ∧ W.heap[X]? = some (.cells #[.slice none 0 0, .int .i64 0, .int .i64 0, .int .i64 0, .int .i64 0, .slice none 0 0] 25) ∧
  ∀ v, GC n0 A M N rds c0 c1 c2 c3 c4 (updB D 16) (updV x 16 v) ((((((W.setCell ⟨X, 0, none⟩ c0).setCell ⟨X, 1, none⟩ c1).setCell ⟨X, 2, none⟩ c2).setCell ⟨X, 3, none⟩ c3).setCell ⟨X, 4, none⟩ c4).setCell ⟨X, 5, none⟩ (.slice QA N qc)) := by
 have h12 := h.o13 h13
 have h11 := h.o12 h12
 have h10 := h.o11 h11
 have h5 := h.o10 h10
 obtain ⟨QA, qc, e1, e2, e3, e4, e5, e6⟩ := h.g11 h11
 obtain ⟨X, f1, f2, f3⟩ := h.g15 h15 hD
 have hne : ∀ r, (Value.slice QA N qc).ownBlock = some r → r ≠ X := fun r hr he => by
  subst he
  rcases e5.2 with ⟨q, _⟩ | ⟨g, cap, cur, q, -, hh, -⟩
  ·rw [q] at hr; simp [Value.ownBlock] at hr
  ·rw [q] at hr
   have : r = g := by simpa [Value.ownBlock] using hr.symm
   subst this
   rw [f3] at hh
   injection hh with hh
   injection hh with _ hh
   exact absurd hh (by decide)
 refine ⟨QA, qc, X, e3 h13, f1, f2, f3, fun v => ⟨h.o5, h.o10, h.o11, h.o12, h.o13, h.o14, fun _ => ⟨h15, h13⟩, by simpa using h.hz, fun a b => ?_, fun a b => ?_, fun a b => ?_, fun _ => ⟨QA, qc, e1, e2, e3, e4, ?_, fun _ => ⟨X, f1, pset6 f3 _ _ _ _ _ _⟩⟩, fun _ e => cno e.symm⟩⟩
 ·rw [show updB D 16 5 = D 5 from rfl, h5] at b; exact cno b.symm
 ·rw [show updB D 16 10 = D 10 from rfl, h10] at b; exact cno b.symm
 ·rw [show updB D 16 11 = D 11 from rfl, h11] at b; exact cno b.symm
 ·exact own_other (own_other (own_other (own_other (own_other (own_other e5 hne _) hne _) hne _) hne _) hne _) hne _
theorem GC.fin (h : GC n0 A M N rds c0 c1 c2 c3 c4 D x W) (h16 : D 16 = true) (h14 : D 14 = true) : x 14 = .bool true ∧ ∃ QA qc X, x 15 = .pointer (some ⟨X, 0, none⟩) ∧ W.heap[X]? = some (.cells #[c0, c1, c2, c3, c4, .slice QA N qc] 25) ∧ W.ownsRow n0 65 4 (.slice QA N qc) N (rds.flatMap rdEnc) := by
 obtain ⟨QA, qc, e1, e2, e3, e4, e5, e6⟩ := h.g11 (h.o12 (h.o14 h14))
 obtain ⟨X, f1, f2⟩ := e6 h16
 exact ⟨e4 h14, QA, qc, X, f1, f2, e5⟩
end
end Go.Proofs.Ytkblockodaiigaa
namespace Go.Proofs.Ytkblockodaiigaa
set_option maxRecDepth 100000
set_option maxHeartbeats 1000000
open Go.RowKit
set_option linter.unusedVariables false
set_option linter.unusedSimpArgs false
theorem law_ReadConflict (a0 : Pic) (x0 : Value) (w : World) (w0 : IsPic w x0 a0 ∧ a0.Fit) :
  Calls Try.prog 8 #[x0] w fun e w' => e = .returned (.bool true) ∧ Below w.heap.size w w' := by
 obtain ⟨hp, hf⟩ := w0
 have hp9 := hp
 obtain ⟨vh, vr, rfl, hh, hr⟩ := hp
 obtain ⟨HA, hc, rfl, -⟩ := hh.slice
 obtain ⟨RA, rc, rfl, hrl⟩ := hr.slice
 unfold maxLen at hrl
 have kal := fun W => pf_l9_alive W
 have kgr := fun W h => pf_r9_Great _ a0 W (hp9.le (W := W) h) hf
 have kck := fun W h => pf_rd_Check _ a0 W (hp9.le (W := W) h) hf
 obtain ⟨W1, hW1, hb1, k1⟩ := newb w (.cells #[.slice HA a0.hs.length hc, .int .i64 a0.tl, .int .i64 a0.th, .int .i64 a0.al, .int .i64 a0.ah, .slice RA a0.rds.length rc] 25)
 have ⟨hp9', hf', hh', hr', hb1', k1', kal', kgr'⟩ := hyd8 hp9 hf hh hr hb1 k1 kal kgr
 have kck' := hyd1 kck
 clear kck kgr kal k1 hb1 hr hh hf hp9
 go_enter Try.func8, Try.ntmps8
 go_wp2_with (fail)
 clear hW1
 go_at_call 23
 refine (kal'.out W1).mono ?_
 rintro e W2 ⟨rfl, hb2⟩
 have hbw2 := bel_set hb1'.out hb2
 have k2 := blk hb2 k1'.out
 obtain ⟨c0, c1, c2, c3, c4, c5⟩ := pc6 k2
 have ⟨hb2', hbw2', k2'⟩ := hyd3 hb2 hbw2 k2
 clear k2 hbw2 hb2
 go_wp2_with (fail)
 go_at_call 10
 refine (kgr'.out W2 hbw2'.out).mono ?_
 rintro e W3 ⟨b, rfl, hb3, hgr⟩
 have hbw3 := bel_set hbw2'.out hb3
 have k3 := blk hb3 k2'.out
 clear c0 c1 c2 c3 c4 c5
 obtain ⟨c0, c1, c2, c3, c4, c5⟩ := pc6 k3
 have ⟨hb3', hbw3', k3', hgr'⟩ := hyd4 hb3 hbw3 k3 hgr
 clear hgr k3 hbw3 hb3
 cases b with
 | true =>
  go_wp2
  go_ret
  exact ⟨rfl, hbw3'.out⟩
 | false =>
  obtain ⟨g6, g70, gl⟩ := hgr'.out rfl
  have hst : a0.steps ≤ 24 := by
   unfold Pic.steps
   rw [List.getD_eq_getElem?_getD]
   cases e : a0.hs[0]? with
   | none => exact Nat.zero_le _
   | some h => exact (gl h (List.mem_of_getElem? e)).1
  clear gl hgr'
  by_cases h15 : 15 < a0.rds.length
  ·have h15i : (15 : Int) < (a0.rds.length : Int) := by omega
   go_wp2
   go_ret
   exact ⟨rfl, hbw3'.out⟩
  have h15n : a0.rds.length ≤ 15 := by omega
  have h15i : ¬ (15 : Int) < (a0.rds.length : Int) := by omega
  go_wp2_with (fail)
  go_at_call 24
  refine (kck'.out W3 hbw3'.out).mono ?_
  rintro e W4 ⟨rfl, hb4⟩
  have hbw4 := bel_set hbw3'.out hb4
  have k4 := blk hb4 k3'.out
  clear c0 c1 c2 c3 c4 c5
  obtain ⟨c0, c1, c2, c3, c4, c5⟩ := pc6 k4
  have ⟨hb4', hbw4', k4'⟩ := hyd3 hb4 hbw4 k4
  clear k4 hbw4 hb4
  obtain ⟨PB, hPB⟩ : ∃ b, picB a0 = b := ⟨_, rfl⟩
  cases PB with
  | false =>
   rw [show picE a0 = 90 by unfold picE; rw [hPB]; rfl]
   have hPB' := hyd1 hPB
   clear hPB
   go_wp2
   go_ret
   exact ⟨rfl, hbw4'.out⟩
  | true =>
   rw [show picE a0 = 0 by unfold picE; rw [hPB]; rfl]
   have kfi := pf_rd_Find _ a0 W4 (hp9'.out.le hbw4'.out) hf'.out hst
   have kco := fun W h => pf_rd_Conflict _ a0 W (hp9'.out.le (W := W) h) hf'.out hst
   by_cases h6 : findE a0 = 6
   ·obtain ⟨e0, hne, hmem, hlen, hcc, hq6, hmore⟩ := conf_bare hPB h6
    rw [h6] at kfi
    rw [e0] at kco
    generalize confL a0 = L at kco hne hmem hlen hcc hq6 hmore
    have hfq : (a0.with (subR a0.rds L)).Fit := ⟨hf'.out.tl, hf'.out.th, hf'.out.al, hf'.out.ah, fun r hr => hf'.out.rds r (subR_mem hmem r hr), hf'.out.hs⟩
    have hsq : (a0.with (subR a0.rds L)).steps ≤ 24 := hst
    obtain ⟨q, hqe⟩ : ∃ q, a0.with (subR a0.rds L) = q := ⟨_, rfl⟩
    rw [hqe] at hq6 hfq hsq
    have hpos : 0 < L.length := by cases L with | nil => exact absurd rfl hne | cons => simp
    have ⟨hPB', kfi', kco', e0', hne', hmem', hcc', hq6'⟩ := hyd8 hPB kfi kco e0 hne hmem hcc hq6
    have ⟨hmore', h6', hfq', hqe'⟩ := hyd4 hmore h6 hfq hqe
    clear hqe hfq h6 hmore hq6 hcc hmem hne e0 kco kfi hPB
    go_wp2_with (fail)
    go_at_call 25
    refine kfi'.out.mono ?_
    rintro e W5 ⟨vf, rfl, hb5, -⟩
    have hbw5 := bel_set hbw4'.out hb5
    have k5 := blk hb5 k4'.out
    clear c0 c1 c2 c3 c4 c5
    obtain ⟨c0, c1, c2, c3, c4, c5⟩ := pc6 k5
    have ⟨hb5', hbw5', k5'⟩ := hyd3 hb5 hbw5 k5
    clear k5 hbw5 hb5
    go_wp2_with (fail)
    go_at_call 19
    refine (kco'.out W5 hbw5'.out).mono ?_
    rintro e W6 ⟨va, rfl, hb6, hia⟩
    have hbw6 := bel_set hbw5'.out hb6
    have k6 := blk hb6 k5'.out
    clear c0 c1 c2 c3 c4 c5
    obtain ⟨c0, c1, c2, c3, c4, c5⟩ := pc6 k6
    have kon := pf_l9_only _ _ a0 L W6 (hp9'.out.le hbw6) hia hmem'.out (by omega)
    rw [hqe'.out] at kon
    obtain ⟨A1, n1, rfl, hn1, hn2, -⟩ := id hia
    unfold maxLen at hn2
    have ⟨hb6', hbw6', k6', hia', kon'⟩ := hyd5 hb6 hbw6 k6 hia kon
    clear kon hia k6 hbw6 hb6
    go_wp2_with (fail)
    go_at_call 31
    refine kon'.out.mono ?_
    rintro e W7 ⟨vq, rfl, hb7, hq⟩
    have hq9 := hq
    obtain ⟨uh, ur, rfl, uh1, ur1⟩ := hq
    have hbw7 := bel_set hbw6'.out hb7
    have k7 := blk hb7 k6'.out
    clear c0 c1 c2 c3 c4 c5
    obtain ⟨OA, oc, rfl, -⟩ := uh1.slice
    obtain ⟨QA, qc, rfl, -⟩ := ur1.slice
    clear uh1 ur1
    obtain ⟨W8, hW8, hb8, k8⟩ := newb W7 (.cells #[.slice OA q.hs.length oc, .int .i64 q.tl, .int .i64 q.th, .int .i64 q.al, .int .i64 q.ah, .slice QA q.rds.length qc] 25)
    have hbw8 := bel_set hbw7 hb8
    have k8p := blk hb8 k7
    obtain ⟨c0, c1, c2, c3, c4, c5⟩ := pc6 k8p
    have hq8 := hq9.le hb8
    have hia8 := (hia'.out.below hb7).below hb8
    have kcc := pf_rd_CheckConflict _ _ a0 L W8 (hp9'.out.le hbw8) hf'.out hst hia8 (by omega) (fun i hi => by have := hmem'.out i hi; unfold fit64; omega)
    rw [hcc'.out] at kcc
    have ⟨hb7', hq9', hbw7', k7', hb8', k8', hbw8', k8p'⟩ := hyd8 hb7 hq9 hbw7 k7 hb8 k8 hbw8 k8p
    have ⟨hq8', hia8', kcc'⟩ := hyd3 hq8 hia8 kcc
    clear kcc hia8 hq8 k8p hbw8 k8 hb8 k7 hbw7 hq9 hb7
    go_wp2_with (fail)
    clear hW8
    go_at_call 21
    refine kcc'.out.mono ?_
    rintro e W9 ⟨rfl, hb9⟩
    have hbw9 := bel_set hbw8'.out hb9
    have k9 := blk hb9 k8'.out
    have k9p := blk hb9 k8p'.out
    have hq9b := hq8'.out.le hb9
    have hia9 := hia8'.out.below hb9
    clear c0 c1 c2 c3 c4 c5
    obtain ⟨c0, c1, c2, c3, c4, c5⟩ := pc6 k9
    have kfq := pf_rd_Find _ _ W9 hq9b hfq'.out hsq
    rw [hq6'.out] at kfq
    have ⟨hb9', hbw9', k9', k9p', hq9b', hia9', kfq'⟩ := hyd7 hb9 hbw9 k9 k9p hq9b hia9 kfq
    clear kfq hia9 hq9b k9p k9 hbw9 hb9
    go_wp2_with (fail)
    go_at_call 25
    refine kfq'.out.mono ?_
    rintro e W10 ⟨vf2, rfl, hb10, -⟩
    have hbw10 := bel_set hbw9'.out hb10
    have k10 := blk hb10 k9p'.out
    have hia10 := hia9'.out.below hb10
    clear c0 c1 c2 c3 c4 c5
    have ⟨hb10', hbw10', k10', hia10'⟩ := hyd4 hb10 hbw10 k10 hia10
    clear hia10 k10 hbw10 hb10
    go_wp2_with (fail)
    go_loopw [90] (fun kx wr => ∃ k : Nat, k ≤ L.length ∧ kx = .int .i64 (k : Int) ∧ Hid (Below W10.heap.size W10 wr)) (fun kx _ => L.length - (intOf kx).toNat)
    case atStart => exact ⟨0, Nat.zero_le _, rfl, Lib.hid (Below.refl _ _)⟩
    case round =>
     obtain ⟨k, hk, rfl, hbr⟩ := hrel
     have hbwr := bel_set hbw10'.out hbr.out
     by_cases hlt : k < L.length
     ·by_cases h1 : L.length = 1
      ·have h1d : decide ((L.length : Int) = 1) = true := decide_eq_true (by omega)
       have h1e : ((L.length : Int) == 1) = true := by simp; omega
       have j1 : (k : Int) < (L.length : Int) := by omega
       have ⟨hbwr', h1', hbr'⟩ := hyd3 hbwr h1 hbr
       clear hbr h1 hbwr
       go_wp2
       go_ret
       exact ⟨rfl, hbwr'.out⟩
      ·have h1d : decide ((L.length : Int) = 1) = false := decide_eq_false (by omega)
       have j1 : (k : Int) < (L.length : Int) := by omega
       have h1e : ((L.length : Int) == 1) = false := by simp; omega
       have kpr := blk hbr.out k10'.out
       have hzr := hbwr.size
       have hzr2 : w.heap.size < wr.heap.size := (gsl kpr)
       have hir := hia10'.out.below hbr.out
       have r1 := fun W => run_cut_l (elemInt : Elem1 Try.prog 36 3 (.int .i64 0) 8) A1 L.length n1 (k + 1) (by omega) W
       have r2 := fun W => run_cut_h (elemInt : Elem1 Try.prog 36 3 (.int .i64 0) 8) A1 L.length n1 k (by omega) W
       have hA1 := hir.cut (k + 1) L.length (by omega) (Nat.le_refl _)
       have hA2 := hir.cut 0 k (Nat.zero_le _) (by omega)
       have e0 : cutA A1 n1 0 = A1 := by
        unfold cutA
        split
        ·rfl
        ·cases A1 <;> simp [Addr.add]
       rw [e0, Nat.sub_zero, Nat.sub_zero, List.drop_zero] at hA2
       have e1 : (L.drop (k + 1)).take (L.length - (k + 1)) = L.drop (k + 1) := List.take_of_length_le (by simp)
       rw [e1] at hA1
       simp only [Int.natCast_add, Int.natCast_one] at r1
       clear e0 e1
       generalize hX9 : cutA A1 n1 (k + 1) = X9 at r1 hA1
       obtain ⟨M, hM⟩ : ∃ M, L.eraseIdx k = M := ⟨_, rfl⟩
       have hMm : ∀ i ∈ M, 0 ≤ i ∧ i < (a0.rds.length : Int) := fun i hi => hmem'.out i (List.mem_of_mem_eraseIdx (by rw [hM]; exact hi))
       have hMl : M.length ≤ L.length := by rw [← hM, List.length_eraseIdx]; split <;> omega
       have hne6 := hmore'.out k hlt (by omega)
       rw [hM] at hne6
       have hfM : (a0.with (subR a0.rds M)).Fit := ⟨hf'.out.tl, hf'.out.th, hf'.out.al, hf'.out.ah, fun r hr => hf'.out.rds r (subR_mem hMm r hr), hf'.out.hs⟩
       have hsM : (a0.with (subR a0.rds M)).steps ≤ 24 := hst
       obtain ⟨E9, hE9⟩ : ∃ E, findE (a0.with (subR a0.rds M)) = E := ⟨_, rfl⟩
       rw [hE9] at hne6
       have hE9d : decide (E9 = 6) = false := decide_eq_false hne6
       have hE9e : (E9 == 6) = false := by simp [hne6]
       have kon : ∀ W v, Below wr.heap.size wr W → Ints W v M → Calls Try.prog 31 #[.agg #[.slice HA a0.hs.length hc, .int .i64 a0.tl, .int .i64 a0.th, .int .i64 a0.al, .int .i64 a0.ah, .slice RA a0.rds.length rc], v] W fun e w' => ∃ QA qc, e = .returned (.tuple #[.agg #[.slice HA a0.hs.length hc, .int .i64 a0.tl, .int .i64 a0.th, .int .i64 a0.al, .int .i64 a0.ah, .slice QA M.length qc], .bool true]) ∧ Below W.heap.size W w' ∧ w'.ownsRow W.heap.size 65 4 (.slice QA M.length qc) M.length ((subR a0.rds M).flatMap rdEnc) := fun W v hb hi =>
        pf_l9_onlyR HA hc RA rc v a0 M W (hh'.out.le (bel_set hbwr hb)) (hr'.out.le (bel_set hbwr hb)) hi hMm (by omega)
       have hwk : IntKind.i64.wrap ((k : Int) + 1) = (k : Int) + 1 := IntWalk.i64_in _ (by omega)
       have i1 : (0 : Int) ≤ (k : Int) := by omega
       have i2 : (k : Int) ≤ (L.length : Int) := by omega
       have i3 : (k : Int) ≤ (n1 : Int) := by omega
       have i4 : (k : Int) + 1 ≤ (L.length : Int) := by omega
       have i5 : (0 : Int) ≤ (k : Int) + 1 := by omega
       have i6 : (L.length : Int) ≤ (n1 : Int) := by omega
       clear hne6
       have ⟨hbwr', hbr', kpr', hir', hA1', hA2', hX9', hM'⟩ := hyd8 hbwr hbr kpr hir hA1 hA2 hX9 hM
       have ⟨hMm', hfM', kon'⟩ := hyd3 hMm hfM kon
       clear kon hfM hMm hM hX9 hA2 hA1 hir kpr hbr hbwr
       go_wp2_with (fail)
       --@ARM18
       refine wp_region_GT (R := belRel wr.heap.size) 17 [some 97, some 98, some 99, some 100, some 101, some 102, some 103, some 104, some 105, some 106, some 107, some 108, some 96, some 109, some 110, some 13, none, some 14] [[], [], [], [], [2, 3], [1, 4], [], [], [7], [6, 8], [5, 9], [0, 10], [11], [12], [12], [], [13, 15], [14]]
        [.eq (.agg #[.slice HA a0.hs.length hc, .int .i64 a0.tl, .int .i64 a0.th, .int .i64 a0.al, .int .i64 a0.ah, .slice RA a0.rds.length rc]), .any, .eq (.slice A1 L.length n1), .eq (.int .i64 (k : Int)), .eq (.slice A1 k n1), .any, .eq (.slice A1 L.length n1), .eq (.int .i64 (k : Int)), .eq (.int .i64 ((k : Int) + 1)), .eq (.slice X9 (L.length - (k + 1)) (n1 - (k + 1))), .any, .any, .any, .any, .any, .any, .any] (GC wr.heap.size (L.take k) M M.length (subR a0.rds M) (.slice HA a0.hs.length hc) (.int .i64 a0.tl) (.int .i64 a0.th) (.int .i64 a0.al) (.int .i64 a0.ah)) (fun _ _ => False) (by kernel_rfl) (by kernel_rfl) (by kernel_rfl) (by kernel_rfl) (by kernel_rfl) (GC.start wr) ?_ (fun _ _ _ _ h => h.elim) ?_
       ·simp only [List.take_succ_cons, List.take_zero]
        refine sGc rfl ?_ (sGc rfl ?_ (sGc rfl ?_ (sGc rfl ?_ (sGc rfl ?_ (sGc rfl ?_ (sGc rfl ?_ (sGc rfl ?_ (sGc rfl ?_ (sGc rfl ?_ (sGc rfl ?_ (sGc rfl ?_ (sGc rfl ?_ (sGc rfl ?_ (sGc rfl ?_ (sGc rfl ?_ (sGc rfl ?_ stepsG_nil))))))))))))))))
        ·intro Dn xv W hD hdp hR hf hG Q hK hP
         have kpW := (Below.block hR w.heap.size (by omega)).trans kpr'.out
         obtain ⟨d0, d1, d2, d3, d4, d5⟩ := pc6 kpW
         have kpW' := hyd1 kpW
         clear kpW
         simp only [fA] at hK ⊢
         go_wp2
         exact hK _ _ (Below.refl _ _) rfl (hG.keep 0 rfl)
        ·intro Dn xv W hD hdp hR hf hG Q hK hP
         simp only [fA] at hK ⊢
         have hG' := hyd1 hG
         clear hG
         go_wp2
         exact hK _ _ ((Below.refl _ _).alloc hG'.out.hz _) trivial (hG'.out.make hD)
        ·intro Dn xv W hD hdp hR hf hG Q hK hP
         simp only [fA] at hK ⊢
         go_wp2
         exact hK _ _ (Below.refl _ _) rfl (hG.keep 2 rfl)
        ·intro Dn xv W hD hdp hR hf hG Q hK hP
         simp only [fA] at hK ⊢
         go_wp2
         exact hK _ _ (Below.refl _ _) rfl (hG.keep 3 rfl)
        ·intro Dn xv W hD hdp hR hf hG Q hK hP
         obtain ⟨e0, e1, -⟩ := hf
         change _ = _ at e0 e1
         simp only [fA, e0, e1] at hK ⊢
         go_wp2
         exact hK _ _ (Below.refl _ _) rfl (hG.keep 4 rfl)
        ·intro Dn xv W hD hdp hR hf hG Q hK hP
         obtain ⟨-, e1, -⟩ := hf
         change _ = _ at e1
         have hs := hdp 1 (by decide)
         have hown := hG.g1 hs hD
         have ⟨hG', hown', hR'⟩ := hyd3 hG hown hR
         clear hR hown hG
         simp only [fA, e1] at hK ⊢
         go_wp2_with (first | (at_builtin; go_must (refine wpList_appI rfl _ _ 36 rfl wr.heap.size 3 elemInt (xv 1) [] rfl hown'.out _ (L.take k) rfl ?c1 ?c2 hG'.out.hz ?_)))
         case c1 => exact Arr.below hA2'.out hR'.out
         case c2 => simp; omega
         intro v9 w9 q1 q2 q3 q4
         have q1b : w9.ownsRow wr.heap.size 3 1 v9 (L.take k).length ((L.take k).map vint) := by simpa [Nat.min_eq_left (Nat.le_of_lt hlt), List.map_take] using q1
         have ⟨q1', q2', q3', q4', q1b'⟩ := hyd5 q1 q2 q3 q4 q1b
         clear q1b q4 q3 q2 q1
         go_wp2
         exact hK _ _ q2'.out trivial (hG'.out.app1 hD hs q3'.out q1b'.out)
        ·intro Dn xv W hD hdp hR hf hG Q hK hP
         simp only [fA] at hK ⊢
         go_wp2
         exact hK _ _ (Below.refl _ _) rfl (hG.keep 6 rfl)
        ·intro Dn xv W hD hdp hR hf hG Q hK hP
         simp only [fA] at hK ⊢
         go_wp2
         exact hK _ _ (Below.refl _ _) rfl (hG.keep 7 rfl)
        ·intro Dn xv W hD hdp hR hf hG Q hK hP
         obtain ⟨e0, -⟩ := hf
         change _ = _ at e0
         simp only [fA, e0] at hK ⊢
         go_wp2
         exact hK _ _ (Below.refl _ _) rfl (hG.keep 8 rfl)
        ·intro Dn xv W hD hdp hR hf hG Q hK hP
         obtain ⟨e0, e1, -⟩ := hf
         change _ = _ at e0 e1
         simp only [fA, e0, e1] at hK ⊢
         go_wp2
         exact hK _ _ (Below.refl _ _) rfl (hG.keep 9 rfl)
        ·intro Dn xv W hD hdp hR hf hG Q hK hP
         obtain ⟨-, e1, -⟩ := hf
         change _ = _ at e1
         have hs := hdp 5 (by decide)
         have hown := hG.g5 hs hD
         have ⟨hG', hown', hR'⟩ := hyd3 hG hown hR
         clear hR hown hG
         simp only [fA, e1] at hK ⊢
         go_wp2_with (first | (at_builtin; go_must (refine wpList_appI rfl _ _ 36 rfl wr.heap.size 3 elemInt (xv 5) (L.take k) rfl hown'.out _ (L.drop (k + 1)) rfl ?c1 ?c2 hG'.out.hz ?_)))
         case c1 => exact Arr.below hA1'.out hR'.out
         case c2 => simp; omega
         intro v9 w9 q1 q2 q3 q4
         have q1b : w9.ownsRow wr.heap.size 3 1 v9 M.length (M.map vint) := by rw [← hM'.out, eraseIdx_split]; simpa [Nat.min_eq_left (Nat.le_of_lt hlt), List.map_take, List.map_drop] using q1
         have ⟨q1', q2', q3', q4', q1b'⟩ := hyd5 q1 q2 q3 q4 q1b
         clear q1b q4 q3 q2 q1
         go_wp2
         exact hK _ _ q2'.out trivial (hG'.out.app2 hD hs q3'.out q1b'.out)
        ·intro Dn xv W hD hdp hR hf hG Q hK hP
         obtain ⟨e0, -⟩ := hf
         change _ = _ at e0
         have hs := hdp 10 (by decide)
         have hcall := kon'.out W (xv 10) hR (Arr.of_own (hG.g10 hs hD))
         have ⟨hG', hcall'⟩ := hyd2 hG hcall
         clear hcall hG
         simp only [fA, e0] at hK ⊢
         go_wp2_with (fail)
         go_at_call 31
         refine hcall'.out.mono ?_
         rintro e w9 ⟨QA, qc, rfl, hb9, ho9⟩
         have ⟨hb9', ho9'⟩ := hyd2 hb9 ho9
         clear ho9 hb9
         go_wp2
         exact hK _ _ (hb9'.out.mono hG'.out.hz) trivial (hG'.out.call hD hs hb9'.out ho9'.out)
        ·intro Dn xv W hD hdp hR hf hG Q hK hP
         have hs := hdp 11 (by decide)
         have hG' := hyd1 hG
         clear hG
         simp only [fA] at hK ⊢
         go_wp2
         exact hK _ _ (Below.refl _ _) trivial (hG'.out.mv12 hD hs)
        ·intro Dn xv W hD hdp hR hf hG Q hK hP
         obtain ⟨QA, qc, e0, hG2⟩ := hG.ext13 hD (hdp 12 (by decide))
         have ⟨hG', hG2'⟩ := hyd2 hG hG2
         clear hG2 hG
         simp only [fA, e0] at hK ⊢
         go_wp2
         exact hK _ _ (Below.refl _ _) trivial hG2'.out
        ·intro Dn xv W hD hdp hR hf hG Q hK hP
         obtain ⟨u9, e0, hG2⟩ := hG.ext14 hD (hdp 12 (by decide))
         have ⟨hG', hG2'⟩ := hyd2 hG hG2
         clear hG2 hG
         simp only [fA, e0] at hK ⊢
         go_wp2
         exact hK _ _ (Below.refl _ _) trivial hG2'.out
        ·intro Dn xv W hD hdp hR hf hG Q hK hP
         have hG' := hyd1 hG
         clear hG
         simp only [fA] at hK ⊢
         go_wp2
         exact hK _ _ ((Below.refl _ _).alloc hG'.out.hz _) trivial (hG'.out.box hD)
        ·intro Dn xv W hD hdp hR hf hG Q hK hP
         obtain ⟨QA, qc, X, e0, e1, hX9, kX, hG2⟩ := hG.store hD (hdp 13 (by decide)) (hdp 15 (by decide))
         obtain ⟨d0, d1, d2, d3, d4, d5⟩ := pc6 kX
         have f0 := pfrz kX 0
         have f1 := pfrz kX 1
         have f2 := pfrz kX 2
         have f3 := pfrz kX 3
         have f4 := pfrz kX 4
         have f5 := pfrz kX 5
         have ⟨hG', hG2', kX'⟩ := hyd3 hG hG2 kX
         clear kX hG2 hG
         simp only [fA, e0, e1] at hK ⊢
         go_wp2
         exact hK (.int .i64 0) _ (pset6b (Below.refl _ _) hX9 _ _ _ _ _ _) trivial (hG2'.out _)
       ·intro D9 xv W5 hD hR hf hG Q' hQ1 _
        obtain ⟨e14, QA9, qc9, X, e15, kX, hoX⟩ := hG.fin (hD 16 (by decide)) (hD 14 (by decide))
        simp only [List.drop_succ_cons, List.drop_zero]
        rw [show List.range 17 = [0, 1, 2, 3, 4, 5, 6, 7, 8, 9, 10, 11, 12, 13, 14, 15, 16] from rfl]
        simp only [fA, e14, e15]
        have hbw5 := bel_set hbwr'.out hR
        have hb105 := bel_set hbr'.out.out hR
        have hpq := only_pic (p := a0) (l := M) (hh'.out.le hbw5) hoX
        have kf9 := pf_rd_Find _ _ W5 hpq hfM'.out hsM
        obtain ⟨d0, d1, d2, d3, d4, d5⟩ := pc6 kX
        rw [hE9] at kf9
        have ⟨hR', hf', hG', hbw5', hb105', hpq', kX', hoX'⟩ := hyd8 hR hf hG hbw5 hb105 hpq kX hoX
        have ⟨kf9', hD', hE9'⟩ := hyd3 kf9 hD hE9
        clear hE9 hD kf9 hoX kX hpq hb105 hbw5 hG hf hR
        go_wp2
        refine hQ1 _ _ ?_
        clear hQ1
        go_wp2_with (fail)
        go_at_call 25
        refine kf9'.out.mono ?_
        rintro e W6 ⟨vf9, rfl, hb6, -⟩
        have hb106 := bel_set hb105'.out hb6
        have ⟨hb6', hb106'⟩ := hyd2 hb6 hb106
        clear hb106 hb6
        go_wp2
        go_roundw
        case rel => exact ⟨k + 1, by omega, by go_num, hb106'⟩
        case measure => simp [intOf]; omega
       --@END18
     ·obtain rfl : k = L.length := by omega
      have ⟨hbwr', hbr'⟩ := hyd2 hbwr hbr
      clear hbr hbwr
      go_wp2
      go_ret
      exact ⟨rfl, hbwr'.out⟩
   ·obtain ⟨e6, eL⟩ := conf_none hPB h6
    rw [e6, eL] at kco
    obtain ⟨E, hE⟩ : ∃ E, findE a0 = E := ⟨_, rfl⟩
    rw [hE] at kfi h6
    have h6d : decide (E = 6) = false := decide_eq_false h6
    have ⟨hPB', kfi', kco', e6', eL', hE'⟩ := hyd6 hPB kfi kco e6 eL hE
    clear hE eL e6 kco kfi hPB
    go_wp2_with (fail)
    go_at_call 25
    refine kfi'.out.mono ?_
    rintro e W5 ⟨vf, rfl, hb5, -⟩
    have hbw5 := bel_set hbw4'.out hb5
    have k5 := blk hb5 k4'.out
    clear c0 c1 c2 c3 c4 c5
    obtain ⟨c0, c1, c2, c3, c4, c5⟩ := pc6 k5
    have ⟨hb5', hbw5', k5'⟩ := hyd3 hb5 hbw5 k5
    clear k5 hbw5 hb5
    go_wp2_with (fail)
    go_at_call 19
    refine (kco'.out W5 hbw5'.out).mono ?_
    rintro e W6 ⟨va, rfl, hb6, hia⟩
    have hbw6 := bel_set hbw5'.out hb6
    obtain ⟨A1, n1, rfl, -⟩ := id hia
    have ⟨hb6', hbw6', hia'⟩ := hyd3 hb6 hbw6 hia
    clear hia hbw6 hb6
    go_wp2
    go_ret
    exact ⟨rfl, hbw6'.out⟩
end Go.Proofs.Ytkblockodaiigaa
