/- read.Find. -/
import Derived.Test.YtkblockodaiigaaRdSome
namespace Go.Proofs.Ytkblockodaiigaa
set_option maxRecDepth 100000
set_option maxHeartbeats 1000000
open Go.RowKit Go.Shelf
set_option linter.unusedVariables false
set_option linter.unusedSimpArgs false
attribute [local go_sem] Oper.semAt_some
theorem wpListIn_appT {α : Type} {enc : α → List Value} {k bytes : Nat} {z : Value} {F : Fence} {n : Nat} {P : Program} (w : World) {ops : Array Oper} {rest : List Oper} {o : Oper} {a : Act} {Q : Exit → Act → World → Prop} (hgd : o.guard = none) (s x : Operand) (t : TypeId)
  (hk : ∀ x, (enc x).length = k) (h1c : ∀ x, ∀ u ∈ enc x, u.oneCell' = true) (hk0 : 0 < k) (hzs : z.cells.size = k) (hb8 : bytes ≤ 100)
  (ho : o.op = .call { callee := .builtin .append, args := #[s, x], argTypes := #[t, t] })
  (base : Nat) (e : TypeId) (ht : P.underlying t = some (.slice e)) (hinfo : (P.info? e).map (fun i => (i.zero, i.size, i.bytes)) = some (some z, k, bytes))
  (v : Value) (L : List α) (hs : a.eval s = v) (hown : w.ownsRow base e k v L.length (L.flatMap enc))
  (B : Nat) (y : α) (hx : a.eval x = .slice (some ⟨B, 0, none⟩) 1 1) (hc : ∀ i u, (enc y)[i]? = some u → w.cell? ⟨B, i, none⟩ = some u) (hlen : L.length ≤ 1000000) (hbase : base ≤ w.heap.size)
  (h : ∀ v' w', w'.ownsRow base e k v' (L ++ [y]).length ((L ++ [y]).flatMap enc) → w.grownBy w' v.ownBlock → (∀ j, v'.ownBlock = some j → v.ownBlock = some j ∨ w.heap.size ≤ j) → wpListIn F n P ops Q rest (a.put o.dst v') w') : wpListIn F n P ops Q (o :: rest) a w := by
 obtain ⟨mi, hmi, hz0, hz1, hzb⟩ := info_parts hinfo
 refine wpListIn_plain hgd fun K hK' => ?_
 obtain ⟨v', w', hr, h2, h3, h4, h5⟩ := run_append_ownB (P := P) w base t o.type e mi z k bytes ht hmi hz0 hz1 hzb hzs hk0 v L.length (L.flatMap enc) hown ⟨B, 0, none⟩ 1 1 (enc y) (by rw [hk, Nat.one_mul]) (fun j u hu => by
  have hadd : (⟨B, 0, none⟩ : Addr).add j = ⟨B, j, none⟩ := by unfold Addr.add; split <;> simp_all
  rw [hadd]
  exact hc j u hu) (h1c y) (by unfold maxLen; omega) (Nat.le_trans (Nat.mul_le_mul (show L.length + 1 ≤ 1000001 by omega) hb8) (by decide)) hbase
 unfold Oper.wpIn
 refine ⟨?_, ?_⟩
 ·simp [Oper.about, ho, resolve, Target.leads, Sem.run_pure]
 ·rw [Oper.semAt_plain F _ _ (by rw [ho]; intro c hc'; cases hc')]
  simp [execOp, ho, resolve, invoke, builtin, hs, hx, hr, Result.andThen]
  refine hK' _ _ (h v' w' ?_ h3 h5)
  rw [List.flatMap_append, List.flatMap_singleton, show (L ++ [y]).length = L.length + 1 by simp]
  exact h2
theorem fndInfo : (Try.prog.info? 27).map (fun i => (i.zero, i.size, i.bytes)) = some (some (.agg #[.int .i64 0, .int .i64 0, .int .i64 0, .int .i64 0, .int .i64 0]), 5, 40) := by kernel_rfl
theorem two_set {W : World} {a b : Nat} {x y : Value} {t t' : TypeId} (ha : W.heap[a]? = some (.cells #[x] t)) (hb : W.heap[b]? = some (.cells #[y] t')) (hne : a ≠ b) (u v : Value) :
  ((W.setCell ⟨a, 0, none⟩ u).setCell ⟨b, 0, none⟩ v).heap[a]? = some (.cells #[u] t) ∧ ((W.setCell ⟨a, 0, none⟩ u).setCell ⟨b, 0, none⟩ v).heap[b]? = some (.cells #[v] t') :=
 ⟨(Below.heap_setCell _ ⟨b, 0, none⟩ _ a hne).trans (heap_set ha 0 u), heap_set ((Below.heap_setCell _ ⟨a, 0, none⟩ _ b (Ne.symm hne)).trans hb) 0 v⟩
theorem SV.keepC {α : Type} {k : Nat} {enc : α → List Value} {w W : World} {v : Value} {L : List α} (h : SV k enc w v L) (hk : ∀ (k : Nat) (o : Obj), w.heap[k]? = some o → o.isCells = true → W.heap[k]? = some o) (hs : w.heap.size ≤ W.heap.size) (hk0 : ∀ x, 0 < (enc x).length) : SV k enc W v L := by
 obtain ⟨A, c, hv, h1, h2, hN, h3⟩ := h
 refine ⟨A, c, hv, h1, h2, hN, fun h0 => ?_⟩
 obtain ⟨b, off, ha, hlt, hc⟩ := h3 h0
 refine ⟨b, off, ha, Nat.lt_of_lt_of_le hlt hs, fun j hj i u hu => ?_⟩
 have h9 := hc j hj i u hu
 refine (World.cell?_of_block (a := ⟨b, off + j * k + i, none⟩) ?_).trans h9
 show W.heap[b]? = w.heap[b]?
 cases e : w.heap[b]? with
 | none => simp [World.cell?, e] at h9
 | some o =>
  refine hk b o e ?_
  cases o <;> first | rfl | simp [World.cell?, e] at h9
def FiI (W3 : World) (Lb : Nat) (pre : List Fnd) (W : World) : Prop := pre.length ≤ 400 ∧ Below Lb W3 W ∧ W3.heap.size ≤ W.heap.size ∧ ∃ v, W.heap[Lb]? = some (.cells #[v] 59) ∧ W.ownsRow W3.heap.size 27 5 v pre.length (pre.flatMap fndEnc)
def FiX (w : World) (c : Code) (pre : List Fnd) (W : World) : Prop := c = .ret ∧ 400 < pre.length ∧ Below w.heap.size w W ∧ W.heap[w.heap.size + 1]? = some (.cells #[.slice none 0 0] 59) ∧ W.heap[w.heap.size + 2]? = some (.cells #[.int .i64 4] 31)
theorem pf_rd_Find (v : Value) (p : Pic) (w : World) (hp : IsPic w v p) (hf : p.Fit) (hst : p.steps ≤ 24) :
  Calls Try.prog 25 #[v] w fun e w' => ∃ v', e = .returned (.tuple #[v', .int .i64 (findE p)]) ∧ Below w.heap.size w w' ∧ FndL w' v' (findL p) := by
 have hp9 := hp
 obtain ⟨vh, vr, rfl, hh, hr⟩ := hp
 obtain ⟨HA, hc, rfl, hhl⟩ := hh.slice
 obtain ⟨RA, rc, rfl, hrl⟩ := hr.slice
 unfold maxLen at hhl hrl
 obtain ⟨W1, hW1, hb1, k1⟩ := newb w (.cells #[.slice HA p.hs.length hc, .int .i64 p.tl, .int .i64 p.th, .int .i64 p.al, .int .i64 p.ah, .slice RA p.rds.length rc] 25)
 obtain ⟨W1a, hW1a, hb1a, k1a⟩ := newb W1 (.cells #[.slice none 0 0] 59)
 obtain ⟨W1b, hW1b, hb1b, k1b⟩ := newb W1a (.cells #[.int .i64 0] 31)
 have z1 : W1.heap.size = w.heap.size + 1 := by rw [← hW1]; simp
 have z1a : W1a.heap.size = w.heap.size + 2 := by rw [← hW1a]; simp [z1]
 have hbwb := bel_set hb1 (bel_set hb1a hb1b)
 have kp := blk hb1b (blk hb1a k1)
 have kr1 := blk hb1b k1a
 have kr2 := k1b
 rw [z1] at kr1
 rw [z1a] at kr2
 obtain ⟨c0, c1, c2, c3, c4, c5⟩ := pc6 kp
 have kck := pf_rd_Check _ p W1b (hp9.le hbwb) hf
 obtain ⟨E, hE⟩ : ∃ E, picE p = E := ⟨_, rfl⟩
 rw [hE] at kck
 have hEB : E = if picB p then 0 else 90 := by rw [← hE]; rfl
 have ⟨hp9', hh', hr', hf', hb1', hb1a', hb1b', k1'⟩ := hyd8 hp9 hh hr hf hb1 hb1a hb1b k1
 have ⟨k1a', k1b', kck', hE', hEB', kp', kr1', kr2'⟩ := hyd8 k1a k1b kck hE hEB kp kr1 kr2
 have hbwb' := hyd1 hbwb
 clear hbwb kr2 kr1 kp hEB hE kck k1b k1a k1 hb1b hb1a hb1 hf hr hh hp9
 refine (callsIn_wide (n := 5)).1 ?_
 refine callsIn_of_wp_marks Try.func25 rfl trivial ?_ rfl
 simp only [Try.ntmps25, List.size_toArray, List.length_cons, List.length_nil, Nat.reduceAdd, Nat.reduceSub, Array.replicate_succ, Array.replicate_zero, List.push_toArray, List.append_toArray, List.nil_append, List.cons_append]
 refine wpIn_wide.2 ?_
 go_wp2_with (fail)
 clear hW1 hW1a hW1b
 go_at_call 24
 refine kck'.out.mono ?_
 rintro e W2 ⟨rfl, hb2⟩
 have hbw2 := bel_set hbwb'.out hb2
 have k12 := blk hb2 kp'.out
 have kr12 := blk hb2 kr1'.out
 have kr22 := blk hb2 kr2'.out
 clear c0 c1 c2 c3 c4 c5
 cases hB : picB p with
 | false =>
  have hE9 : E = 90 := by rw [hEB'.out, hB]; rfl
  have hres : findE p = 90 := by unfold findE; rw [hB]; rfl
  have hv : findL p = [] := by unfold findL; rw [hres]; rfl
  have d1 := cellOne kr12
  have d2 := cellOne kr22
  have f1 := pfrz kr12 0
  have f2 := pfrz kr22 0
  have n12 : ¬ w.heap.size + 1 = w.heap.size + 2 := by omega
  have hb5 : Below w.heap.size w ((W2.setCell ⟨w.heap.size + 1, 0, none⟩ (.slice none 0 0)).setCell ⟨w.heap.size + 2, 0, none⟩ (.int .i64 90)) := Below.setCell (Below.setCell hbw2 (p := ⟨w.heap.size + 1, 0, none⟩) (Nat.le_succ _) _) (p := ⟨w.heap.size + 2, 0, none⟩) (by show w.heap.size ≤ w.heap.size + 2; omega) _
  subst hE9
  have ⟨hb2', hbw2', k12', hB', hres', hv', kr12', kr22'⟩ := hyd8 hb2 hbw2 k12 hB hres hv kr12 kr22
  have hb5' := hyd1 hb5
  clear hb5 kr22 kr12 hv hres hB k12 hbw2 hb2
  have h99 := two_set kr12'.out kr22'.out n12 (.slice none 0 0) (.int .i64 90)
  have h99' := hyd1 h99
  clear h99
  go_wp2
  refine leaves_marks w.heap.size [] _ trivial fun w9 hb hkeep => ?_
  have q1 := cellOne (hkeep _ _ h99'.out.1 rfl)
  have q2 := cellOne (hkeep _ _ h99'.out.2 rfl)
  exact ⟨.tuple #[.slice none 0 0, .int .i64 90], by simp [results, Try.results25, go_sem, q1, q2], _, by rw [hres'.out], hb5'.out.trans hb, by rw [hv'.out]; exact SV.nil _⟩
 | true =>
  have hE9 : E = 0 := by rw [hEB'.out, hB]; rfl
  subst hE9
  have hok := picB_iff.1 hB
  have hokM := hok.toM
  obtain ⟨Lb, hLb⟩ : ∃ b, W2.heap.size = b := ⟨_, rfl⟩
  obtain ⟨W3, hW3, hb3, k3⟩ := newb W2 (.cells #[.slice none 0 0] 59)
  have hz2 := gsl kr22
  have hLs : Lb < W3.heap.size := by rw [← hLb]; exact gsl k3
  rw [hLb] at k3 hb3 hz2
  have hb23 : Below w.heap.size w W3 := hbw2.trans (hb3.mono (by omega))
  have kp3 := (hb3.block _ (by omega)).trans k12
  have kr13 := (hb3.block _ (by omega)).trans kr12
  have kr23 := (hb3.block _ hz2).trans kr22
  obtain ⟨c0, c1, c2, c3, c4, c5⟩ := pc6 kp3
  obtain ⟨W4, hW4, hb4, k4⟩ := newb W3 (.cells #[.slice HA p.hs.length hc, .int .i64 p.tl, .int .i64 p.th, .int .i64 p.al, .int .i64 p.ah, .slice RA p.rds.length rc] 25)
  have hb24 := bel_set hb23 hb4
  have hwL : w.heap.size + 2 < Lb := hz2
  have hz34 := hb4.size
  have hzw : w.heap.size < W3.heap.size := by omega
  have hfy := found1_yields pf_union p _ _ w W4 W3.heap.size w.heap.size hp9'.out hokM hst (Nat.le_refl _) (by omega) hb24 rfl k4
  have hI0 : FiI W3 Lb [] W4 := ⟨Nat.zero_le _, hb4.mono (by omega), hz34, _, blk hb4 k3, World.ownsRow_nil _ _ _ _⟩
  have ⟨hb2', hbw2', k12', kr12', kr22', hB', hok', hokM'⟩ := hyd8 hb2 hbw2 k12 kr12 kr22 hB hok hokM
  have ⟨hb3', k3', hb23', kp3', kr13', kr23', hb4', k4'⟩ := hyd8 hb3 k3 hb23 kp3 kr13 kr23 hb4 k4
  have ⟨hb24', hfy', hI0'⟩ := hyd3 hb24 hfy hI0
  clear hI0 hfy hb24 k4 hb4 kr23 kr13 kp3 hb23 k3 hb3 hokM hok hB kr22 kr12 k12 hbw2 hb2
  have hLz : ∀ A : World, W4.heap.size ≤ A.heap.size → Lb < A.heap.size := fun A h => by omega
  go_wp2_with (first | (go_at_call 60; ((with_reducible refine (pf_rd_found _ _ _ rfl rfl).mono ?_); rintro e w' ⟨rfl, rfl⟩)))
  refine (wpIn_wide (n := 5)).1 ?_
  refine wpIn_rangeFunc_ownO rfl (by omega) (gf := 85) (lb := #[.pointer (some ⟨W3.heap.size, 0, none⟩)]) rfl trivial (enters_of Try.func85 (by kernel_rfl) rfl)
   hfy'.out KeepT.trans (fun V l o o' hl h hc _ => KeepT.put o' (by omega) h hc) (Below.refl _ _) (fun _ => rfl)
   (FiI W3 Lb) (FiX w)
   (fun s A B row hs hg hr => by
    obtain ⟨h1, h2, h3, v, h4, h5⟩ := hs
    exact ⟨h1, ownFrom_below' (w := W3) (by omega) (by omega) () A B row h2 hg hr, Nat.le_trans h3 hg.size, v, ownFrom_cells W4.heap.size _ _ _ () A B row h4 hg hr, own_grown h5 hg (fun r e => (hr r e).2)⟩)
   (fun c s A B row hs hg hr => by
    obtain ⟨h1, h2, h3, h4, h5⟩ := hs
    exact ⟨h1, h2, ownFrom_below' (w := w) (by omega) (Nat.le_refl _) () A B row h3 hg hr, ownFrom_cells W4.heap.size _ _ _ () A B row h4 hg hr, ownFrom_cells W4.heap.size _ _ _ () A B row h5 hg hr⟩)
   hI0'.out (fun _ x a' V => ∃ (u : Nat → Value) (Fb : Nat), a' = { tmps := #[(u 0), .pointer (some ⟨w.heap.size, 0, none⟩), .pointer (some ⟨w.heap.size + 1, 0, none⟩), .pointer (some ⟨w.heap.size + 2, 0, none⟩), (u 4), .pointer (some ⟨Lb, 0, none⟩), .pointer (some ⟨Fb, 0, none⟩), (u 7), (u 8), (u 9), (u 10), (u 11), (u 12), (u 13), (u 14), (u 15), (u 16), (u 17), (u 18), (u 19), (u 20), (u 21), (u 22), (u 23), (u 24), (u 25)], defers := [] } ∧ V.heap[Fb]? = some (.cells #[.int .i64 x.head, .int .i64 x.throw, .int .i64 x.adv, .int .i64 x.lo, .int .i64 x.hi] 27))
   (fun pre x a' V o o' h hr => by obtain ⟨u, Fb, h1, h3⟩ := h; exact ⟨u, Fb, h1, (World.putObj_heap_other (fun e => by rw [e, hr] at h3; cases h3)).trans h3⟩) ?assign ?body ?done ?stop
  case assign =>
   intro la pre x V K hI hG hK
   dsimp only [fnArg, fndV]
   gi_wp2
   obtain ⟨h1, h2, h3, v, h4, h5⟩ := hI
   have hbV : Below V.heap.size V (V.alloc (.cells #[.int .i64 x.head, .int .i64 x.throw, .int .i64 x.adv, .int .i64 x.lo, .int .i64 x.hi] 27)) := (Below.refl _ V).alloc (Nat.le_refl _) _
   have hzV := hbV.size
   refine hK _ _ ((KeepsOthers.alloc _ _).from _) (KeepT.fresh hbV (by omega)) ⟨h1, h2.trans (hbV.mono (by omega)), by omega, v, blk hbV h4, own_below h5 hbV⟩ ?_
   obtain ⟨u, hu⟩ := frame_mkS (fun u : Nat → Value => #[(u 0), .pointer (some ⟨w.heap.size, 0, none⟩), .pointer (some ⟨w.heap.size + 1, 0, none⟩), .pointer (some ⟨w.heap.size + 2, 0, none⟩), (u 4), .pointer (some ⟨Lb, 0, none⟩), .pointer (some ⟨V.heap.size, 0, none⟩), (u 7), (u 8), (u 9), (u 10), (u 11), (u 12), (u 13), (u 14), (u 15), (u 16), (u 17), (u 18), (u 19), (u 20), (u 21), (u 22), (u 23), (u 24), (u 25)]) _ (by kernel_rfl)
   exact ⟨u, V.heap.size, congrArg (fun t => ({ tmps := t, defers := [] } : Act)) hu, heap_alloc_new _ _⟩
  case body =>
   rintro la pre x a' V ⟨h400, hbV, hzV, v, kL, ho⟩ ⟨u, Fb, rfl, kF⟩ hlen
   obtain ⟨n, hn⟩ : ∃ n, pre.length = n := ⟨_, rfl⟩
   have ho2 := ho
   rw [hn] at h400 ho2
   obtain ⟨AO, cO, rfl⟩ := slice_formR ho2
   have kc := cellOne kL
   have kf := pfrz kL 0
   obtain ⟨d0, d1, d2, d3, d4⟩ := pc5 kF
   obtain ⟨Wa, hWa, hba, ka⟩ := newb V (.cells #[.int .i64 x.head, .int .i64 x.throw, .int .i64 x.adv, .int .i64 x.lo, .int .i64 x.hi] 27)
   have hoa := own_below ho hba
   have hza : W3.heap.size ≤ Wa.heap.size := Nat.le_trans hzV hba.size
   have hnew : ∀ (i : Nat) (y : Value), (fndEnc x)[i]? = some y → Wa.cell? ⟨V.heap.size, i, none⟩ = some y := fun i y hu => by
    have hi5 : i < 5 := (List.getElem?_eq_some_iff.1 hu).1
    obtain ⟨n0, n1, n2, n3, n4⟩ := pc5 ka
    match i, hi5 with
    | 0, _ => rw [n0]; simpa [fndEnc] using hu
    | 1, _ => rw [n1]; simpa [fndEnc] using hu
    | 2, _ => rw [n2]; simpa [fndEnc] using hu
    | 3, _ => rw [n3]; simpa [fndEnc] using hu
    | 4, _ => rw [n4]; simpa [fndEnc] using hu
   have hgL : ∀ w7, Wa.grownBy w7 (Value.slice AO n cO).ownBlock → w7.heap[Lb]? = some (.cells #[.slice AO n cO] 59) ∧ Below Lb W3 w7 ∧ KeepT w.heap.size V w7 ∧ KeepsFrom W4.heap.size V w7 := fun w7 hg => by
    have hrow : ∀ r, (Value.slice AO n cO).ownBlock = some r → W3.heap.size ≤ r ∧ ∃ cs, Wa.heap[r]? = some (.cells cs 27) := fun r e => by
     obtain ⟨q1, q2⟩ := hoa.lt r e
     refine ⟨q1, ?_⟩
     cases AO with
     | none => cases e
     | some a =>
      injection e with e
      subst e
      exact TagAt.of_own hoa a n cO rfl
    have hbx : Below Lb W3 Wa := hbV.trans (hba.mono (by omega))
    refine ⟨(hg.block Lb (by have := gsl (blk hba kL); omega) (fun e => by have := (hrow Lb e.symm).1; omega)).trans (blk hba kL), Below.grown hbx hg (by omega) (fun r e => by have := (hrow r e).1; omega), ?_, ?_⟩
    ·refine (KeepT.fresh hba (by omega)).trans ?_
     cases hown : (Value.slice AO n cO).ownBlock with
     | none => rw [hown] at hg; exact KeepT.fresh ⟨hg.os, hg.tape, hg.output, hg.size, fun k hk => hg.block k hk (by simp)⟩ (by omega)
     | some r =>
      obtain ⟨q1, cs, q2⟩ := hrow r hown
      rw [hown] at hg
      exact KeepT.of_grown hg (by omega) (by omega) (fun cs' t h => by rw [q2] at h; cases h; unfold srchT; decide)
    ·refine (KeepsFrom.of_grownBy (grown_of_below hba) (fun j e => by cases e)).trans ⟨hg.size, fun k o hk h1 h2 => (hg.block k (gsl h1) (fun e => ?_)).trans h1⟩
     obtain ⟨-, cs, q2⟩ := hrow k e.symm
     rw [q2] at h1
     cases h1
     cases h2
   have hn1 : (pre ++ [x]).length = n + 1 := by rw [List.length_append, hn]; rfl
   by_cases h4 : n + 1 ≤ 400
   ·have j1 : ¬ (400 : Int) < ((n + 1 : Nat) : Int) := by omega
    have j2 : ¬ (400 : Int) < (n : Int) + 1 := by omega
    have j3 : ¬ 400 < n + 1 := by omega
    have ⟨hbV', kL', ho', ho2', kF', hba', ka', hoa'⟩ := hyd8 hbV kL ho ho2 kF hba ka hoa
    have ⟨hnew', hgL', hn', hn1'⟩ := hyd4 hnew hgL hn hn1
    clear hn1 hn hgL hnew hoa ka hba kF ho2 ho kL hbV
    gi_wp2_with (first | (gi_at_builtin; refine wpListIn_appT (enc := fndEnc) (k := 5) (bytes := 40) _ rfl _ _ 59 (fun _ => rfl) (fun x u hu => by simp [fndEnc] at hu; rcases hu with rfl | rfl | rfl | rfl | rfl <;> rfl) (by decide) rfl (by decide) rfl W3.heap.size 27 Try.underlying59 fndInfo (.slice AO n cO) pre rfl hoa'.out V.heap.size x rfl hnew'.out (by rw [hn'.out]; omega) hza ?_; intro v7 w7 q1 q2 q3; rw [hn1'.out] at q1; (obtain ⟨A7, c7, rfl⟩ := slice_formR q1); (obtain ⟨kL7, -, -, -⟩ := hgL'.out w7 q2); have kc7 := cellOne kL7; have kf7 := pfrz kL7 0))
    obtain ⟨-, hB7, hK7, hF7⟩ := hgL'.out w7 q2
    have hzz := hB7.size
    exact ⟨hF7.trans ((KeepsOthers.setCell _ _ _).from _), hK7.trans (KeepT.setCell _ (by omega) kL7 (by unfold srchT; decide)), by rw [hn1'.out]; exact h4, Below.setCell hB7 (p := ⟨Lb, 0, none⟩) (Nat.le_refl _) _, by simpa using hzz, _, heap_set kL7 0 _, own_apart (by rw [hn1'.out]; exact q1) hLs _⟩
   ·have j1 : (400 : Int) < ((n + 1 : Nat) : Int) := by omega
    have j2 : (400 : Int) < (n : Int) + 1 := by omega
    have j3 : 400 < n + 1 := by omega
    have n1 : ¬ w.heap.size + 1 = Lb := by omega
    have n2 : ¬ w.heap.size + 2 = Lb := by omega
    have n3 : ¬ Lb = w.heap.size + 1 := by omega
    have n4 : ¬ Lb = w.heap.size + 2 := by omega
    have n5 : ¬ w.heap.size + 1 = w.heap.size + 2 := by omega
    have ⟨hbV', kL', ho', ho2', kF', hba', ka', hoa'⟩ := hyd8 hbV kL ho ho2 kF hba ka hoa
    have ⟨hnew', hgL', hn', hn1'⟩ := hyd4 hnew hgL hn hn1
    clear hn1 hn hgL hnew hoa ka hba kF ho2 ho kL hbV
    gi_wp2_with (first | (gi_at_builtin; refine wpListIn_appT (enc := fndEnc) (k := 5) (bytes := 40) _ rfl _ _ 59 (fun _ => rfl) (fun x u hu => by simp [fndEnc] at hu; rcases hu with rfl | rfl | rfl | rfl | rfl <;> rfl) (by decide) rfl (by decide) rfl W3.heap.size 27 Try.underlying59 fndInfo (.slice AO n cO) pre rfl hoa'.out V.heap.size x rfl hnew'.out (by rw [hn'.out]; omega) hza ?_; intro v7 w7 q1 q2 q3; rw [hn1'.out] at q1; (obtain ⟨A7, c7, rfl⟩ := slice_formR q1); (obtain ⟨kL7, -, -, -⟩ := hgL'.out w7 q2); have kc7 := cellOne kL7; have kf7 := pfrz kL7 0; (obtain ⟨-, hB7, -, -⟩ := hgL'.out w7 q2); have m1 := (hB7.block _ (show w.heap.size + 1 < Lb by omega)).trans kr13'.out; have m2 := (hB7.block _ (show w.heap.size + 2 < Lb by omega)).trans kr23'.out; have p1 := cellOne m1; have p2 := cellOne m2; have f1 := pfrz m1 0; have f2 := pfrz m2 0))
    obtain ⟨-, hB7, hK7, hF7⟩ := hgL'.out w7 q2
    have m1 := (hB7.block _ (show w.heap.size + 1 < Lb by omega)).trans kr13'.out
    have m2 := (hB7.block _ (show w.heap.size + 2 < Lb by omega)).trans kr23'.out
    obtain ⟨y1, y2⟩ := two_set ((Below.heap_setCell _ ⟨Lb, 0, none⟩ (.slice A7 (n + 1) c7) (w.heap.size + 1) n1).trans m1) ((Below.heap_setCell _ ⟨Lb, 0, none⟩ (.slice A7 (n + 1) c7) (w.heap.size + 2) n2).trans m2) n5 (.slice none 0 0) (.int .i64 4)
    have hBw : Below w.heap.size w w7 := hb23'.out.trans (hB7.mono (by omega))
    refine ⟨hF7.trans ((((KeepsOthers.setCell _ _ _).from _).trans ((KeepsOthers.setCell _ _ _).from _)).trans ((KeepsOthers.setCell _ _ _).from _)), rfl, by rw [hn1'.out]; omega, ?_, y1, y2⟩
    exact Below.setCell (Below.setCell (Below.setCell hBw (p := ⟨Lb, 0, none⟩) (by show w.heap.size ≤ Lb; omega) _) (p := ⟨w.heap.size + 1, 0, none⟩) (Nat.le_succ _) _) (p := ⟨w.heap.size + 2, 0, none⟩) (by show w.heap.size ≤ w.heap.size + 2; omega) _
  case done =>
   rintro D xs V hD hS ⟨h400, hbV, hzV, v, kL, ho⟩ hK
   obtain rfl : xs = foundL p := hS
   have hsv := SV.of_own (e := 27) (enc := fndEnc) (fun _ => rfl) ho
   obtain ⟨n, hn⟩ : ∃ n, (foundL p).length = n := ⟨_, rfl⟩
   rw [hn] at h400 ho
   obtain ⟨AO, cO, rfl⟩ := slice_formR ho
   have kc := cellOne kL
   have m1 := (hbV.block _ (show w.heap.size + 1 < Lb by omega)).trans kr13'.out
   have m2 := (hbV.block _ (show w.heap.size + 2 < Lb by omega)).trans kr23'.out
   have p1 := cellOne m1
   have p2 := cellOne m2
   have f1 := pfrz m1 0
   have f2 := pfrz m2 0
   have n5 : ¬ w.heap.size + 1 = w.heap.size + 2 := by omega
   have hBw : Below w.heap.size w V := hb23'.out.trans (hbV.mono (by omega))
   have hDn1 : D ≠ w.heap.size + 1 := by omega
   have hDn2 : D ≠ w.heap.size + 2 := by omega
   by_cases hz : n = 0
   ·have hE6 : findE p = 6 := by unfold findE; rw [hB'.out, if_pos rfl, if_pos (List.eq_nil_of_length_eq_zero (by rw [hn]; exact hz))]
    have hv6 : findL p = [] := by unfold findL; rw [hE6]; rfl
    have h99 := two_set m1 m2 n5 (.slice none 0 0) (.int .i64 6)
    have hK9 : ((V.setCell ⟨w.heap.size + 1, 0, none⟩ (.slice none 0 0)).setCell ⟨w.heap.size + 2, 0, none⟩ (.int .i64 6)).heap[D]? = some (.deferred (some [])) := (Below.heap_setCell _ ⟨w.heap.size + 2, 0, none⟩ _ D hDn2).trans ((Below.heap_setCell _ ⟨w.heap.size + 1, 0, none⟩ _ D hDn1).trans hK)
    have hb9 := Below.setCell (Below.setCell hBw (p := ⟨w.heap.size + 1, 0, none⟩) (Nat.le_succ _) (.slice none 0 0)) (p := ⟨w.heap.size + 2, 0, none⟩) (by show w.heap.size ≤ w.heap.size + 2; omega) (.int .i64 6)
    subst hz
    have ⟨hsv', hn', ho', hbV', m1', m2', hBw', kL'⟩ := hyd8 hsv hn ho hbV m1 m2 hBw kL
    have ⟨hE6', hv6', h99', hK9', hK', hb9'⟩ := hyd6 hE6 hv6 h99 hK9 hK hb9
    clear hb9 hK hK9 h99 hv6 hE6 kL hBw m2 m1 hbV ho hn hsv
    go_wp2
    refine leaves_marks w.heap.size [{ target := .collected D, args := #[] }] _ ⟨⟨D, rfl, by omega, hK9'.out, by simp⟩, trivial⟩ fun w9 hb hkeep => ?_
    have q1 := cellOne (hkeep _ _ h99'.out.1 rfl)
    have q2 := cellOne (hkeep _ _ h99'.out.2 rfl)
    exact ⟨.tuple #[.slice none 0 0, .int .i64 6], by simp [results, Try.results25, go_sem, q1, q2], _, by rw [hE6'.out], hb9'.out.trans hb, by rw [hv6'.out]; exact SV.nil _⟩
   ·have hz2 : 0 < n := Nat.pos_of_ne_zero hz
    have hz3 : ¬ (n : Int) = 0 := by omega
    have hE0 : findE p = 0 := by
     unfold findE
     rw [hB'.out, if_pos rfl, if_neg (fun h => by rw [h] at hn; exact hz hn.symm), if_neg (by omega)]
    have hv0 : findL p = foundL p := by unfold findL; rw [hE0]; rfl
    have h99 := two_set m1 m2 n5 (.slice AO n cO) (.int .i64 0)
    have hK9 : ((V.setCell ⟨w.heap.size + 1, 0, none⟩ (.slice AO n cO)).setCell ⟨w.heap.size + 2, 0, none⟩ (.int .i64 0)).heap[D]? = some (.deferred (some [])) := (Below.heap_setCell _ ⟨w.heap.size + 2, 0, none⟩ _ D hDn2).trans ((Below.heap_setCell _ ⟨w.heap.size + 1, 0, none⟩ _ D hDn1).trans hK)
    have hb9 := Below.setCell (Below.setCell hBw (p := ⟨w.heap.size + 1, 0, none⟩) (Nat.le_succ _) (.slice AO n cO)) (p := ⟨w.heap.size + 2, 0, none⟩) (by show w.heap.size ≤ w.heap.size + 2; omega) (.int .i64 0)
    have ho9 := own_apart (own_apart ho (B := w.heap.size + 1) (k := 0) (by omega) (.slice AO n cO)) (B := w.heap.size + 2) (k := 0) (by omega) (.int .i64 0)
    have hs9 : FndL ((V.setCell ⟨w.heap.size + 1, 0, none⟩ (.slice AO n cO)).setCell ⟨w.heap.size + 2, 0, none⟩ (.int .i64 0)) (.slice AO n cO) (foundL p) := SV.of_own (e := 27) (enc := fndEnc) (fun _ => rfl) (by rw [hn]; exact ho9)
    have ⟨hsv', hn', ho', hbV', m1', m2', hBw', kL'⟩ := hyd8 hsv hn ho hbV m1 m2 hBw kL
    have ⟨hE0', hv0', h99', hK9', hK', hb9', ho9', hs9'⟩ := hyd8 hE0 hv0 h99 hK9 hK hb9 ho9 hs9
    clear hs9 ho9 hb9 hK hK9 h99 hv0 hE0 kL hBw m2 m1 hbV ho hn hsv
    go_wp2
    refine leaves_marks w.heap.size [{ target := .collected D, args := #[] }] _ ⟨⟨D, rfl, by omega, hK9'.out, by simp⟩, trivial⟩ fun w9 hb hkeep => ?_
    have q1 := cellOne (hkeep _ _ h99'.out.1 rfl)
    have q2 := cellOne (hkeep _ _ h99'.out.2 rfl)
    exact ⟨.tuple #[.slice AO n cO, .int .i64 0], by simp [results, Try.results25, go_sem, q1, q2], _, by rw [hE0'.out], hb9'.out.trans hb, by rw [hv0'.out]; exact SV.keepC hs9'.out hkeep hb.size (fun _ => by show 0 < 5; decide)⟩
  case stop =>
   rintro D c pre V hD hS ⟨rfl, h400, hbV, k1, k2⟩ hK
   have hlen : 400 < (foundL p).length := Nat.lt_of_lt_of_le h400 hS.1.length_le
   have hE4 : findE p = 4 := by
    unfold findE
    rw [hB'.out, if_pos rfl, if_neg (fun h => by rw [h] at hlen; exact absurd hlen (by decide)), if_pos hlen]
   have hv4 : findL p = [] := by unfold findL; rw [hE4]; rfl
   refine wpIn_wide.2 ?_
   have ⟨hbV', k1', k2', hE4', hv4', hlen', hS', hK'⟩ := hyd8 hbV k1 k2 hE4 hv4 hlen hS hK
   clear hK hS hlen hv4 hE4 k2 k1 hbV
   go_wp2
   refine leaves_marks w.heap.size [{ target := .collected D, args := #[] }] _ ⟨⟨D, rfl, by omega, hK'.out, by simp⟩, trivial⟩ fun w9 hb hkeep => ?_
   have q1 := cellOne (hkeep _ _ k1'.out rfl)
   have q2 := cellOne (hkeep _ _ k2'.out rfl)
   exact ⟨.tuple #[.slice none 0 0, .int .i64 4], by simp [results, Try.results25, go_sem, q1, q2], _, by rw [hE4'.out], hbV'.out.trans hb, by rw [hv4'.out]; exact SV.nil _⟩
end Go.Proofs.Ytkblockodaiigaa
