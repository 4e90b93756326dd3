/- read.Find. The chapter's example, plain. alive: the chapter's example runs as it says. alive: the walk. -/
import Derived.Test.YtphdalgaemefoaaGreatRdSome
import Derived.Test.YtphdalgaemefoaaGreatReadLaw
import Derived.Test.YtphdalgaemefoaaGreatRdConf
import Derived.Test.YtphdalgaemefoaaGreatRdSimV
import Derived.Test.YtphdalgaemefoaaGreatRdSameP
import Derived.Test.YtphdalgaemefoaaGreatReb
namespace Go.Proofs.YtphdalgaemefoaaGreat
set_option maxRecDepth 100000
set_option maxHeartbeats 1000000
open Go.RowKit Go.Shelf
set_option linter.unusedVariables false
set_option linter.unusedSimpArgs false
attribute [local go_sem] Oper.semAt_some
theorem wpListIn_appT {α : Type} {enc : α → List Value} {k bytes : Nat} {z : Value} {F : Fence} {n : Nat} {P : Program} (w : World) {ops : Array Oper} {rest : List Oper} {o : Oper} {a : Act} {Q : Exit → Act → World → Prop} (hgd : o.guard = none) (s x : Operand) (t : TypeId)
  (hk : ∀ x, (enc x).length = k) (h1c : ∀ x, ∀ u ∈ enc x, u.oneCell' = true) (hk0 : 0 < k) (hzs : z.cells.size = k) (hb8 : bytes ≤ 100)
  (ho : o.op = .call { callee := .builtin .append, args := #[s, x], argTypes := #[t, t] })
  (base : Nat) (e : TypeId) (ht : P.underlying t = some (.slice e)) (hinfo : (P.info? e).map (fun i => (i.zero, i.size, i.bytes)) = some (some z, k, bytes))
  (v : Value) (L : List α) (hs : a.eval s = v) (hown : w.ownsRow base e k v L.length (L.flatMap enc))
  (B : Nat) (y : α) (hx : a.eval x = .slice (some ⟨B, 0, none⟩) 1 1) (hc : ∀ i u, (enc y)[i]? = some u → w.cell? ⟨B, i, none⟩ = some u) (hlen : L.length ≤ 1000000) (hbase : base ≤ w.heap.size)
  (h : ∀ v' w', w'.ownsRow base e k v' (L ++ [y]).length ((L ++ [y]).flatMap enc) → w.grownBy w' v.ownBlock → (∀ j, v'.ownBlock = some j → v.ownBlock = some j ∨ w.heap.size ≤ j) → wpListIn F n P ops Q rest (a.put o.dst v') w') : wpListIn F n P ops Q (o :: rest) a w := by
 obtain ⟨mi, hmi, hz0, hz1, hzb⟩ := info_parts hinfo
 refine wpListIn_plain hgd fun K hK' => ?_
 obtain ⟨v', w', hr, h2, h3, h4, h5⟩ := run_append_ownB (P := P) w base t o.type e mi z k bytes ht hmi hz0 hz1 hzb hzs hk0 v L.length (L.flatMap enc) hown ⟨B, 0, none⟩ 1 1 (enc y) (by rw [hk, Nat.one_mul]) (fun j u hu => by
  have hadd : (⟨B, 0, none⟩ : Addr).add j = ⟨B, j, none⟩ := by unfold Addr.add; split <;> simp_all
  rw [hadd]
  exact hc j u hu) (h1c y) (by unfold maxLen; omega) (Nat.le_trans (Nat.mul_le_mul (show L.length + 1 ≤ 1000001 by omega) hb8) (by decide)) hbase
 unfold Oper.wpIn
 refine ⟨?_, ?_⟩
 ·simp [Oper.about, ho, resolve, Target.leads, Sem.run_pure]
 ·rw [Oper.semAt_plain F _ _ (by rw [ho]; intro c hc'; cases hc')]
  simp [execOp, ho, resolve, invoke, builtin, hs, hx, hr, Result.andThen]
  refine hK' _ _ (h v' w' ?_ h3 h5)
  rw [List.flatMap_append, List.flatMap_singleton, show (L ++ [y]).length = L.length + 1 by simp]
  exact h2
theorem fndInfo : (Tryz.prog.info? 35).map (fun i => (i.zero, i.size, i.bytes)) = some (some (.agg #[.int .i64 0, .int .i64 0, .int .i64 0, .int .i64 0, .int .i64 0]), 5, 40) := by kernel_rfl
theorem two_set {W : World} {a b : Nat} {x y : Value} {t t' : TypeId} (ha : W.heap[a]? = some (.cells #[x] t)) (hb : W.heap[b]? = some (.cells #[y] t')) (hne : a ≠ b) (u v : Value) :
  ((W.setCell ⟨a, 0, none⟩ u).setCell ⟨b, 0, none⟩ v).heap[a]? = some (.cells #[u] t) ∧ ((W.setCell ⟨a, 0, none⟩ u).setCell ⟨b, 0, none⟩ v).heap[b]? = some (.cells #[v] t') :=
 ⟨(Below.heap_setCell _ ⟨b, 0, none⟩ _ a hne).trans (heap_set ha 0 u), heap_set ((Below.heap_setCell _ ⟨a, 0, none⟩ _ b (Ne.symm hne)).trans hb) 0 v⟩
theorem SV.keepC {α : Type} {k : Nat} {enc : α → List Value} {w W : World} {v : Value} {L : List α} (h : SV k enc w v L) (hk : ∀ (k : Nat) (o : Obj), w.heap[k]? = some o → o.isCells = true → W.heap[k]? = some o) (hs : w.heap.size ≤ W.heap.size) (hk0 : ∀ x, 0 < (enc x).length) : SV k enc W v L := by
 obtain ⟨A, c, hv, h1, h2, hN, h3⟩ := h
 refine ⟨A, c, hv, h1, h2, hN, fun h0 => ?_⟩
 obtain ⟨b, off, ha, hlt, hc⟩ := h3 h0
 refine ⟨b, off, ha, Nat.lt_of_lt_of_le hlt hs, fun j hj i u hu => ?_⟩
 have h9 := hc j hj i u hu
 refine (World.cell?_of_block (a := ⟨b, off + j * k + i, none⟩) ?_).trans h9
 show W.heap[b]? = w.heap[b]?
 cases e : w.heap[b]? with
 | none => simp [World.cell?, e] at h9
 | some o =>
  refine hk b o e ?_
  cases o <;> first | rfl | simp [World.cell?, e] at h9
def FiI (W3 : World) (Lb : Nat) (pre : List Fnd) (W : World) : Prop := pre.length ≤ 400 ∧ Below Lb W3 W ∧ W3.heap.size ≤ W.heap.size ∧ ∃ v, W.heap[Lb]? = some (.cells #[v] 30) ∧ W.ownsRow W3.heap.size 35 5 v pre.length (pre.flatMap fndEnc)
def FiX (w : World) (c : Code) (pre : List Fnd) (W : World) : Prop := c = .ret ∧ 400 < pre.length ∧ Below w.heap.size w W ∧ W.heap[w.heap.size + 1]? = some (.cells #[.slice none 0 0] 30) ∧ W.heap[w.heap.size + 2]? = some (.cells #[.int .i64 4] 31)
theorem pf_rd_Find (v : Value) (p : Pic) (w : World) (hp : IsPic w v p) (hf : p.Fit) (hst : p.steps ≤ 24) :
  Calls Tryz.prog 6 #[v] w fun e w' => ∃ v', e = .returned (.tuple #[v', .int .i64 (findE p)]) ∧ Below w.heap.size w w' ∧ FndL w' v' (findL p) := by
 have hp9 := hp
 obtain ⟨vh, vr, rfl, hh, hr⟩ := hp
 obtain ⟨HA, hc, rfl, hhl⟩ := hh.slice
 obtain ⟨RA, rc, rfl, hrl⟩ := hr.slice
 unfold maxLen at hhl hrl
 obtain ⟨W1, hW1, hb1, k1⟩ := newb w (.cells #[.slice HA p.hs.length hc, .int .i64 p.tl, .int .i64 p.th, .int .i64 p.al, .int .i64 p.ah, .slice RA p.rds.length rc] 25)
 obtain ⟨W1a, hW1a, hb1a, k1a⟩ := newb W1 (.cells #[.slice none 0 0] 30)
 obtain ⟨W1b, hW1b, hb1b, k1b⟩ := newb W1a (.cells #[.int .i64 0] 31)
 have z1 : W1.heap.size = w.heap.size + 1 := by rw [← hW1]; simp
 have z1a : W1a.heap.size = w.heap.size + 2 := by rw [← hW1a]; simp [z1]
 have hbwb := bel_set hb1 (bel_set hb1a hb1b)
 have kp := blk hb1b (blk hb1a k1)
 have kr1 := blk hb1b k1a
 have kr2 := k1b
 rw [z1] at kr1
 rw [z1a] at kr2
 obtain ⟨c0, c1, c2, c3, c4, c5⟩ := pc6 kp
 have kck := pf_rd_Check _ p W1b (hp9.le hbwb) hf
 obtain ⟨E, hE⟩ : ∃ E, picE p = E := ⟨_, rfl⟩
 rw [hE] at kck
 have hEB : E = if picB p then 0 else 90 := by rw [← hE]; rfl
 have ⟨hp9', hh', hr', hf', hb1', hb1a', hb1b', k1'⟩ := hyd8 hp9 hh hr hf hb1 hb1a hb1b k1
 have ⟨k1a', k1b', kck', hE', hEB', kp', kr1', kr2'⟩ := hyd8 k1a k1b kck hE hEB kp kr1 kr2
 have hbwb' := hyd1 hbwb
 clear hbwb kr2 kr1 kp hEB hE kck k1b k1a k1 hb1b hb1a hb1 hf hr hh hp9
 refine (callsIn_wide (n := 5)).1 ?_
 refine callsIn_of_wp_marks Tryz.func6 rfl trivial ?_ rfl
 simp only [Tryz.ntmps6, List.size_toArray, List.length_cons, List.length_nil, Nat.reduceAdd, Nat.reduceSub, Array.replicate_succ, Array.replicate_zero, List.push_toArray, List.append_toArray, List.nil_append, List.cons_append]
 refine wpIn_wide.2 ?_
 go_wp2_with (fail)
 clear hW1 hW1a hW1b
 go_at_call 19
 refine kck'.out.mono ?_
 rintro e W2 ⟨rfl, hb2⟩
 have hbw2 := bel_set hbwb'.out hb2
 have k12 := blk hb2 kp'.out
 have kr12 := blk hb2 kr1'.out
 have kr22 := blk hb2 kr2'.out
 clear c0 c1 c2 c3 c4 c5
 cases hB : picB p with
 | false =>
  have hE9 : E = 90 := by rw [hEB'.out, hB]; rfl
  have hres : findE p = 90 := by unfold findE; rw [hB]; rfl
  have hv : findL p = [] := by unfold findL; rw [hres]; rfl
  have d1 := cellOne kr12
  have d2 := cellOne kr22
  have f1 := pfrz kr12 0
  have f2 := pfrz kr22 0
  have n12 : ¬ w.heap.size + 1 = w.heap.size + 2 := by omega
  have hb5 : Below w.heap.size w ((W2.setCell ⟨w.heap.size + 1, 0, none⟩ (.slice none 0 0)).setCell ⟨w.heap.size + 2, 0, none⟩ (.int .i64 90)) := Below.setCell (Below.setCell hbw2 (p := ⟨w.heap.size + 1, 0, none⟩) (Nat.le_succ _) _) (p := ⟨w.heap.size + 2, 0, none⟩) (by show w.heap.size ≤ w.heap.size + 2; omega) _
  subst hE9
  have ⟨hb2', hbw2', k12', hB', hres', hv', kr12', kr22'⟩ := hyd8 hb2 hbw2 k12 hB hres hv kr12 kr22
  have hb5' := hyd1 hb5
  clear hb5 kr22 kr12 hv hres hB k12 hbw2 hb2
  have h99 := two_set kr12'.out kr22'.out n12 (.slice none 0 0) (.int .i64 90)
  have h99' := hyd1 h99
  clear h99
  go_wp2
  refine leaves_marks w.heap.size [] _ trivial fun w9 hb hkeep => ?_
  have q1 := cellOne (hkeep _ _ h99'.out.1 rfl)
  have q2 := cellOne (hkeep _ _ h99'.out.2 rfl)
  exact ⟨.tuple #[.slice none 0 0, .int .i64 90], by simp [results, Tryz.results6, go_sem, q1, q2], _, by rw [hres'.out], hb5'.out.trans hb, by rw [hv'.out]; exact SV.nil _⟩
 | true =>
  have hE9 : E = 0 := by rw [hEB'.out, hB]; rfl
  subst hE9
  have hok := picB_iff.1 hB
  have hokM := hok.toM
  obtain ⟨Lb, hLb⟩ : ∃ b, W2.heap.size = b := ⟨_, rfl⟩
  obtain ⟨W3, hW3, hb3, k3⟩ := newb W2 (.cells #[.slice none 0 0] 30)
  have hz2 := gsl kr22
  have hLs : Lb < W3.heap.size := by rw [← hLb]; exact gsl k3
  rw [hLb] at k3 hb3 hz2
  have hb23 : Below w.heap.size w W3 := hbw2.trans (hb3.mono (by omega))
  have kp3 := (hb3.block _ (by omega)).trans k12
  have kr13 := (hb3.block _ (by omega)).trans kr12
  have kr23 := (hb3.block _ hz2).trans kr22
  obtain ⟨c0, c1, c2, c3, c4, c5⟩ := pc6 kp3
  obtain ⟨W4, hW4, hb4, k4⟩ := newb W3 (.cells #[.slice HA p.hs.length hc, .int .i64 p.tl, .int .i64 p.th, .int .i64 p.al, .int .i64 p.ah, .slice RA p.rds.length rc] 25)
  have hb24 := bel_set hb23 hb4
  have hwL : w.heap.size + 2 < Lb := hz2
  have hz34 := hb4.size
  have hzw : w.heap.size < W3.heap.size := by omega
  have hfy := found1_yields pf_union p _ _ w W4 W3.heap.size w.heap.size hp9'.out hokM hst (Nat.le_refl _) (by omega) hb24 rfl k4
  have hI0 : FiI W3 Lb [] W4 := ⟨Nat.zero_le _, hb4.mono (by omega), hz34, _, blk hb4 k3, World.ownsRow_nil _ _ _ _⟩
  have ⟨hb2', hbw2', k12', kr12', kr22', hB', hok', hokM'⟩ := hyd8 hb2 hbw2 k12 kr12 kr22 hB hok hokM
  have ⟨hb3', k3', hb23', kp3', kr13', kr23', hb4', k4'⟩ := hyd8 hb3 k3 hb23 kp3 kr13 kr23 hb4 k4
  have ⟨hb24', hfy', hI0'⟩ := hyd3 hb24 hfy hI0
  clear hI0 hfy hb24 k4 hb4 kr23 kr13 kp3 hb23 k3 hb3 hokM hok hB kr22 kr12 k12 hbw2 hb2
  have hLz : ∀ A : World, W4.heap.size ≤ A.heap.size → Lb < A.heap.size := fun A h => by omega
  go_wp2_with (first | (go_at_call 20; ((with_reducible refine (pf_rd_found _ _ _ rfl rfl).mono ?_); rintro e w' ⟨rfl, rfl⟩)))
  refine (wpIn_wide (n := 5)).1 ?_
  refine wpIn_rangeFunc_ownO rfl (by omega) (gf := 45) (lb := #[.pointer (some ⟨W3.heap.size, 0, none⟩)]) rfl trivial (enters_of Tryz.func45 (by kernel_rfl) rfl)
   hfy'.out KeepT.trans (fun V l o o' hl h hc _ => KeepT.put o' (by omega) h hc) (Below.refl _ _) (fun _ => rfl)
   (FiI W3 Lb) (FiX w)
   (fun s A B row hs hg hr => by
    obtain ⟨h1, h2, h3, v, h4, h5⟩ := hs
    exact ⟨h1, ownFrom_below' (w := W3) (by omega) (by omega) () A B row h2 hg hr, Nat.le_trans h3 hg.size, v, ownFrom_cells W4.heap.size _ _ _ () A B row h4 hg hr, own_grown h5 hg (fun r e => (hr r e).2)⟩)
   (fun c s A B row hs hg hr => by
    obtain ⟨h1, h2, h3, h4, h5⟩ := hs
    exact ⟨h1, h2, ownFrom_below' (w := w) (by omega) (Nat.le_refl _) () A B row h3 hg hr, ownFrom_cells W4.heap.size _ _ _ () A B row h4 hg hr, ownFrom_cells W4.heap.size _ _ _ () A B row h5 hg hr⟩)
   hI0'.out (fun _ x a' V => ∃ (u : Nat → Value) (Fb : Nat), a' = { tmps := #[(u 0), .pointer (some ⟨w.heap.size, 0, none⟩), .pointer (some ⟨w.heap.size + 1, 0, none⟩), .pointer (some ⟨w.heap.size + 2, 0, none⟩), (u 4), .pointer (some ⟨Lb, 0, none⟩), .pointer (some ⟨Fb, 0, none⟩), (u 7), (u 8), (u 9), (u 10), (u 11), (u 12), (u 13), (u 14), (u 15), (u 16), (u 17), (u 18), (u 19), (u 20), (u 21), (u 22), (u 23), (u 24), (u 25)], defers := [] } ∧ V.heap[Fb]? = some (.cells #[.int .i64 x.head, .int .i64 x.throw, .int .i64 x.adv, .int .i64 x.lo, .int .i64 x.hi] 35))
   (fun pre x a' V o o' h hr => by obtain ⟨u, Fb, h1, h3⟩ := h; exact ⟨u, Fb, h1, (World.putObj_heap_other (fun e => by rw [e, hr] at h3; cases h3)).trans h3⟩) ?assign ?body ?done ?stop
  case assign =>
   intro la pre x V K hI hG hK
   dsimp only [fnArg, fndV]
   gi_wp2
   obtain ⟨h1, h2, h3, v, h4, h5⟩ := hI
   have hbV : Below V.heap.size V (V.alloc (.cells #[.int .i64 x.head, .int .i64 x.throw, .int .i64 x.adv, .int .i64 x.lo, .int .i64 x.hi] 35)) := (Below.refl _ V).alloc (Nat.le_refl _) _
   have hzV := hbV.size
   refine hK _ _ ((KeepsOthers.alloc _ _).from _) (KeepT.fresh hbV (by omega)) ⟨h1, h2.trans (hbV.mono (by omega)), by omega, v, blk hbV h4, own_below h5 hbV⟩ ?_
   obtain ⟨u, hu⟩ := frame_mkS (fun u : Nat → Value => #[(u 0), .pointer (some ⟨w.heap.size, 0, none⟩), .pointer (some ⟨w.heap.size + 1, 0, none⟩), .pointer (some ⟨w.heap.size + 2, 0, none⟩), (u 4), .pointer (some ⟨Lb, 0, none⟩), .pointer (some ⟨V.heap.size, 0, none⟩), (u 7), (u 8), (u 9), (u 10), (u 11), (u 12), (u 13), (u 14), (u 15), (u 16), (u 17), (u 18), (u 19), (u 20), (u 21), (u 22), (u 23), (u 24), (u 25)]) _ (by kernel_rfl)
   exact ⟨u, V.heap.size, congrArg (fun t => ({ tmps := t, defers := [] } : Act)) hu, heap_alloc_new _ _⟩
  case body =>
   rintro la pre x a' V ⟨h400, hbV, hzV, v, kL, ho⟩ ⟨u, Fb, rfl, kF⟩ hlen
   obtain ⟨n, hn⟩ : ∃ n, pre.length = n := ⟨_, rfl⟩
   have ho2 := ho
   rw [hn] at h400 ho2
   obtain ⟨AO, cO, rfl⟩ := slice_formR ho2
   have kc := cellOne kL
   have kf := pfrz kL 0
   obtain ⟨d0, d1, d2, d3, d4⟩ := pc5 kF
   obtain ⟨Wa, hWa, hba, ka⟩ := newb V (.cells #[.int .i64 x.head, .int .i64 x.throw, .int .i64 x.adv, .int .i64 x.lo, .int .i64 x.hi] 35)
   have hoa := own_below ho hba
   have hza : W3.heap.size ≤ Wa.heap.size := Nat.le_trans hzV hba.size
   have hnew : ∀ (i : Nat) (y : Value), (fndEnc x)[i]? = some y → Wa.cell? ⟨V.heap.size, i, none⟩ = some y := fun i y hu => by
    have hi5 : i < 5 := (List.getElem?_eq_some_iff.1 hu).1
    obtain ⟨n0, n1, n2, n3, n4⟩ := pc5 ka
    match i, hi5 with
    | 0, _ => rw [n0]; simpa [fndEnc] using hu
    | 1, _ => rw [n1]; simpa [fndEnc] using hu
    | 2, _ => rw [n2]; simpa [fndEnc] using hu
    | 3, _ => rw [n3]; simpa [fndEnc] using hu
    | 4, _ => rw [n4]; simpa [fndEnc] using hu
   have hgL : ∀ w7, Wa.grownBy w7 (Value.slice AO n cO).ownBlock → w7.heap[Lb]? = some (.cells #[.slice AO n cO] 30) ∧ Below Lb W3 w7 ∧ KeepT w.heap.size V w7 ∧ KeepsFrom W4.heap.size V w7 := fun w7 hg => by
    have hrow : ∀ r, (Value.slice AO n cO).ownBlock = some r → W3.heap.size ≤ r ∧ ∃ cs, Wa.heap[r]? = some (.cells cs 35) := fun r e => by
     obtain ⟨q1, q2⟩ := hoa.lt r e
     refine ⟨q1, ?_⟩
     cases AO with
     | none => cases e
     | some a =>
      injection e with e
      subst e
      exact TagAt.of_own hoa a n cO rfl
    have hbx : Below Lb W3 Wa := hbV.trans (hba.mono (by omega))
    refine ⟨(hg.block Lb (by have := gsl (blk hba kL); omega) (fun e => by have := (hrow Lb e.symm).1; omega)).trans (blk hba kL), Below.grown hbx hg (by omega) (fun r e => by have := (hrow r e).1; omega), ?_, ?_⟩
    ·refine (KeepT.fresh hba (by omega)).trans ?_
     cases hown : (Value.slice AO n cO).ownBlock with
     | none => rw [hown] at hg; exact KeepT.fresh ⟨hg.os, hg.tape, hg.output, hg.size, fun k hk => hg.block k hk (by simp)⟩ (by omega)
     | some r =>
      obtain ⟨q1, cs, q2⟩ := hrow r hown
      rw [hown] at hg
      exact KeepT.of_grown hg (by omega) (by omega) (fun cs' t h => by rw [q2] at h; cases h; unfold srchT; decide)
    ·refine (KeepsFrom.of_grownBy (grown_of_below hba) (fun j e => by cases e)).trans ⟨hg.size, fun k o hk h1 h2 => (hg.block k (gsl h1) (fun e => ?_)).trans h1⟩
     obtain ⟨-, cs, q2⟩ := hrow k e.symm
     rw [q2] at h1
     cases h1
     cases h2
   have hn1 : (pre ++ [x]).length = n + 1 := by rw [List.length_append, hn]; rfl
   by_cases h4 : n + 1 ≤ 400
   ·have j1 : ¬ (400 : Int) < ((n + 1 : Nat) : Int) := by omega
    have j2 : ¬ (400 : Int) < (n : Int) + 1 := by omega
    have j3 : ¬ 400 < n + 1 := by omega
    have ⟨hbV', kL', ho', ho2', kF', hba', ka', hoa'⟩ := hyd8 hbV kL ho ho2 kF hba ka hoa
    have ⟨hnew', hgL', hn', hn1'⟩ := hyd4 hnew hgL hn hn1
    clear hn1 hn hgL hnew hoa ka hba kF ho2 ho kL hbV
    gi_wp2_with (first | (gi_at_builtin; refine wpListIn_appT (enc := fndEnc) (k := 5) (bytes := 40) _ rfl _ _ 30 (fun _ => rfl) (fun x u hu => by simp [fndEnc] at hu; rcases hu with rfl | rfl | rfl | rfl | rfl <;> rfl) (by decide) rfl (by decide) rfl W3.heap.size 35 Tryz.underlying30 fndInfo (.slice AO n cO) pre rfl hoa'.out V.heap.size x rfl hnew'.out (by rw [hn'.out]; omega) hza ?_; intro v7 w7 q1 q2 q3; rw [hn1'.out] at q1; (obtain ⟨A7, c7, rfl⟩ := slice_formR q1); (obtain ⟨kL7, -, -, -⟩ := hgL'.out w7 q2); have kc7 := cellOne kL7; have kf7 := pfrz kL7 0))
    obtain ⟨-, hB7, hK7, hF7⟩ := hgL'.out w7 q2
    have hzz := hB7.size
    exact ⟨hF7.trans ((KeepsOthers.setCell _ _ _).from _), hK7.trans (KeepT.setCell _ (by omega) kL7 (by unfold srchT; decide)), by rw [hn1'.out]; exact h4, Below.setCell hB7 (p := ⟨Lb, 0, none⟩) (Nat.le_refl _) _, by simpa using hzz, _, heap_set kL7 0 _, own_apart (by rw [hn1'.out]; exact q1) hLs _⟩
   ·have j1 : (400 : Int) < ((n + 1 : Nat) : Int) := by omega
    have j2 : (400 : Int) < (n : Int) + 1 := by omega
    have j3 : 400 < n + 1 := by omega
    have n1 : ¬ w.heap.size + 1 = Lb := by omega
    have n2 : ¬ w.heap.size + 2 = Lb := by omega
    have n3 : ¬ Lb = w.heap.size + 1 := by omega
    have n4 : ¬ Lb = w.heap.size + 2 := by omega
    have n5 : ¬ w.heap.size + 1 = w.heap.size + 2 := by omega
    have ⟨hbV', kL', ho', ho2', kF', hba', ka', hoa'⟩ := hyd8 hbV kL ho ho2 kF hba ka hoa
    have ⟨hnew', hgL', hn', hn1'⟩ := hyd4 hnew hgL hn hn1
    clear hn1 hn hgL hnew hoa ka hba kF ho2 ho kL hbV
    gi_wp2_with (first | (gi_at_builtin; refine wpListIn_appT (enc := fndEnc) (k := 5) (bytes := 40) _ rfl _ _ 30 (fun _ => rfl) (fun x u hu => by simp [fndEnc] at hu; rcases hu with rfl | rfl | rfl | rfl | rfl <;> rfl) (by decide) rfl (by decide) rfl W3.heap.size 35 Tryz.underlying30 fndInfo (.slice AO n cO) pre rfl hoa'.out V.heap.size x rfl hnew'.out (by rw [hn'.out]; omega) hza ?_; intro v7 w7 q1 q2 q3; rw [hn1'.out] at q1; (obtain ⟨A7, c7, rfl⟩ := slice_formR q1); (obtain ⟨kL7, -, -, -⟩ := hgL'.out w7 q2); have kc7 := cellOne kL7; have kf7 := pfrz kL7 0; (obtain ⟨-, hB7, -, -⟩ := hgL'.out w7 q2); have m1 := (hB7.block _ (show w.heap.size + 1 < Lb by omega)).trans kr13'.out; have m2 := (hB7.block _ (show w.heap.size + 2 < Lb by omega)).trans kr23'.out; have p1 := cellOne m1; have p2 := cellOne m2; have f1 := pfrz m1 0; have f2 := pfrz m2 0))
    obtain ⟨-, hB7, hK7, hF7⟩ := hgL'.out w7 q2
    have m1 := (hB7.block _ (show w.heap.size + 1 < Lb by omega)).trans kr13'.out
    have m2 := (hB7.block _ (show w.heap.size + 2 < Lb by omega)).trans kr23'.out
    obtain ⟨y1, y2⟩ := two_set ((Below.heap_setCell _ ⟨Lb, 0, none⟩ (.slice A7 (n + 1) c7) (w.heap.size + 1) n1).trans m1) ((Below.heap_setCell _ ⟨Lb, 0, none⟩ (.slice A7 (n + 1) c7) (w.heap.size + 2) n2).trans m2) n5 (.slice none 0 0) (.int .i64 4)
    have hBw : Below w.heap.size w w7 := hb23'.out.trans (hB7.mono (by omega))
    refine ⟨hF7.trans ((((KeepsOthers.setCell _ _ _).from _).trans ((KeepsOthers.setCell _ _ _).from _)).trans ((KeepsOthers.setCell _ _ _).from _)), rfl, by rw [hn1'.out]; omega, ?_, y1, y2⟩
    exact Below.setCell (Below.setCell (Below.setCell hBw (p := ⟨Lb, 0, none⟩) (by show w.heap.size ≤ Lb; omega) _) (p := ⟨w.heap.size + 1, 0, none⟩) (Nat.le_succ _) _) (p := ⟨w.heap.size + 2, 0, none⟩) (by show w.heap.size ≤ w.heap.size + 2; omega) _
  case done =>
   rintro D xs V hD hS ⟨h400, hbV, hzV, v, kL, ho⟩ hK
   obtain rfl : xs = foundL p := hS
   have hsv := SV.of_own (e := 35) (enc := fndEnc) (fun _ => rfl) ho
   obtain ⟨n, hn⟩ : ∃ n, (foundL p).length = n := ⟨_, rfl⟩
   rw [hn] at h400 ho
   obtain ⟨AO, cO, rfl⟩ := slice_formR ho
   have kc := cellOne kL
   have m1 := (hbV.block _ (show w.heap.size + 1 < Lb by omega)).trans kr13'.out
   have m2 := (hbV.block _ (show w.heap.size + 2 < Lb by omega)).trans kr23'.out
   have p1 := cellOne m1
   have p2 := cellOne m2
   have f1 := pfrz m1 0
   have f2 := pfrz m2 0
   have n5 : ¬ w.heap.size + 1 = w.heap.size + 2 := by omega
   have hBw : Below w.heap.size w V := hb23'.out.trans (hbV.mono (by omega))
   have hDn1 : D ≠ w.heap.size + 1 := by omega
   have hDn2 : D ≠ w.heap.size + 2 := by omega
   by_cases hz : n = 0
   ·have hE6 : findE p = 6 := by unfold findE; rw [hB'.out, if_pos rfl, if_pos (List.eq_nil_of_length_eq_zero (by rw [hn]; exact hz))]
    have hv6 : findL p = [] := by unfold findL; rw [hE6]; rfl
    have h99 := two_set m1 m2 n5 (.slice none 0 0) (.int .i64 6)
    have hK9 : ((V.setCell ⟨w.heap.size + 1, 0, none⟩ (.slice none 0 0)).setCell ⟨w.heap.size + 2, 0, none⟩ (.int .i64 6)).heap[D]? = some (.deferred (some [])) := (Below.heap_setCell _ ⟨w.heap.size + 2, 0, none⟩ _ D hDn2).trans ((Below.heap_setCell _ ⟨w.heap.size + 1, 0, none⟩ _ D hDn1).trans hK)
    have hb9 := Below.setCell (Below.setCell hBw (p := ⟨w.heap.size + 1, 0, none⟩) (Nat.le_succ _) (.slice none 0 0)) (p := ⟨w.heap.size + 2, 0, none⟩) (by show w.heap.size ≤ w.heap.size + 2; omega) (.int .i64 6)
    subst hz
    have ⟨hsv', hn', ho', hbV', m1', m2', hBw', kL'⟩ := hyd8 hsv hn ho hbV m1 m2 hBw kL
    have ⟨hE6', hv6', h99', hK9', hK', hb9'⟩ := hyd6 hE6 hv6 h99 hK9 hK hb9
    clear hb9 hK hK9 h99 hv6 hE6 kL hBw m2 m1 hbV ho hn hsv
    go_wp2
    refine leaves_marks w.heap.size [{ target := .collected D, args := #[] }] _ ⟨⟨D, rfl, by omega, hK9'.out, by simp⟩, trivial⟩ fun w9 hb hkeep => ?_
    have q1 := cellOne (hkeep _ _ h99'.out.1 rfl)
    have q2 := cellOne (hkeep _ _ h99'.out.2 rfl)
    exact ⟨.tuple #[.slice none 0 0, .int .i64 6], by simp [results, Tryz.results6, go_sem, q1, q2], _, by rw [hE6'.out], hb9'.out.trans hb, by rw [hv6'.out]; exact SV.nil _⟩
   ·have hz2 : 0 < n := Nat.pos_of_ne_zero hz
    have hz3 : ¬ (n : Int) = 0 := by omega
    have hE0 : findE p = 0 := by
     unfold findE
     rw [hB'.out, if_pos rfl, if_neg (fun h => by rw [h] at hn; exact hz hn.symm), if_neg (by omega)]
    have hv0 : findL p = foundL p := by unfold findL; rw [hE0]; rfl
    have h99 := two_set m1 m2 n5 (.slice AO n cO) (.int .i64 0)
    have hK9 : ((V.setCell ⟨w.heap.size + 1, 0, none⟩ (.slice AO n cO)).setCell ⟨w.heap.size + 2, 0, none⟩ (.int .i64 0)).heap[D]? = some (.deferred (some [])) := (Below.heap_setCell _ ⟨w.heap.size + 2, 0, none⟩ _ D hDn2).trans ((Below.heap_setCell _ ⟨w.heap.size + 1, 0, none⟩ _ D hDn1).trans hK)
    have hb9 := Below.setCell (Below.setCell hBw (p := ⟨w.heap.size + 1, 0, none⟩) (Nat.le_succ _) (.slice AO n cO)) (p := ⟨w.heap.size + 2, 0, none⟩) (by show w.heap.size ≤ w.heap.size + 2; omega) (.int .i64 0)
    have ho9 := own_apart (own_apart ho (B := w.heap.size + 1) (k := 0) (by omega) (.slice AO n cO)) (B := w.heap.size + 2) (k := 0) (by omega) (.int .i64 0)
    have hs9 : FndL ((V.setCell ⟨w.heap.size + 1, 0, none⟩ (.slice AO n cO)).setCell ⟨w.heap.size + 2, 0, none⟩ (.int .i64 0)) (.slice AO n cO) (foundL p) := SV.of_own (e := 35) (enc := fndEnc) (fun _ => rfl) (by rw [hn]; exact ho9)
    have ⟨hsv', hn', ho', hbV', m1', m2', hBw', kL'⟩ := hyd8 hsv hn ho hbV m1 m2 hBw kL
    have ⟨hE0', hv0', h99', hK9', hK', hb9', ho9', hs9'⟩ := hyd8 hE0 hv0 h99 hK9 hK hb9 ho9 hs9
    clear hs9 ho9 hb9 hK hK9 h99 hv0 hE0 kL hBw m2 m1 hbV ho hn hsv
    go_wp2
    refine leaves_marks w.heap.size [{ target := .collected D, args := #[] }] _ ⟨⟨D, rfl, by omega, hK9'.out, by simp⟩, trivial⟩ fun w9 hb hkeep => ?_
    have q1 := cellOne (hkeep _ _ h99'.out.1 rfl)
    have q2 := cellOne (hkeep _ _ h99'.out.2 rfl)
    exact ⟨.tuple #[.slice AO n cO, .int .i64 0], by simp [results, Tryz.results6, go_sem, q1, q2], _, by rw [hE0'.out], hb9'.out.trans hb, by rw [hv0'.out]; exact SV.keepC hs9'.out hkeep hb.size (fun _ => by show 0 < 5; decide)⟩
  case stop =>
   rintro D c pre V hD hS ⟨rfl, h400, hbV, k1, k2⟩ hK
   have hlen : 400 < (foundL p).length := Nat.lt_of_lt_of_le h400 hS.1.length_le
   have hE4 : findE p = 4 := by
    unfold findE
    rw [hB'.out, if_pos rfl, if_neg (fun h => by rw [h] at hlen; exact absurd hlen (by decide)), if_pos hlen]
   have hv4 : findL p = [] := by unfold findL; rw [hE4]; rfl
   refine wpIn_wide.2 ?_
   have ⟨hbV', k1', k2', hE4', hv4', hlen', hS', hK'⟩ := hyd8 hbV k1 k2 hE4 hv4 hlen hS hK
   clear hK hS hlen hv4 hE4 k2 k1 hbV
   go_wp2
   refine leaves_marks w.heap.size [{ target := .collected D, args := #[] }] _ ⟨⟨D, rfl, by omega, hK'.out, by simp⟩, trivial⟩ fun w9 hb hkeep => ?_
   have q1 := cellOne (hkeep _ _ k1'.out rfl)
   have q2 := cellOne (hkeep _ _ k2'.out rfl)
   exact ⟨.tuple #[.slice none 0 0, .int .i64 4], by simp [results, Tryz.results6, go_sem, q1, q2], _, by rw [hE4'.out], hbV'.out.trans hb, by rw [hv4'.out]; exact SV.nil _⟩
end Go.Proofs.YtphdalgaemefoaaGreat
namespace Go.Proofs.YtphdalgaemefoaaGreat
set_option maxRecDepth 100000
set_option maxHeartbeats 1000000
set_option linter.unusedVariables false
def exP : Pic := ⟨[⟨[0, 3, 0, 0, 3, 0], [0]⟩], 1, 2, 10, 10, [⟨0, 0, 100, 100⟩, ⟨0, 1, 106, 106⟩, ⟨0, 2, 100, 100⟩, ⟨1, 2, 116, 116⟩]⟩
def exQ : Pic := ⟨[⟨[0, 3, 0, 0, 3, 0], [0]⟩], 1, 2, 10, 10, [⟨0, 0, 100, 100⟩, ⟨0, 1, 106, 106⟩, ⟨0, 2, 100, 100⟩, ⟨1, 2, 116, 116⟩, ⟨1, 5, 110, 110⟩]⟩
theorem ex_picB : picB exP = true := by kernel_rfl
theorem ex_findL : foundL exP = [⟨0, 2, 10, 100, 100⟩] := by kernel_rfl
theorem ex_conf : confGo exQ 5 (idxL 5) = [3, 4] := by kernel_rfl
theorem ex_some : someP exQ (idxL 5) = false := by kernel_rfl
end Go.Proofs.YtphdalgaemefoaaGreat
namespace Go.Proofs.YtphdalgaemefoaaGreat
set_option maxRecDepth 100000
set_option maxHeartbeats 1000000
open Go.RowKit Go.Shelf
set_option linter.unusedVariables false
set_option linter.unusedSimpArgs false
theorem own_block {W : World} {base e size b n : Nat} {cs : List Value} (h : W.heap[b]? = some (.cells cs.toArray e)) (hb : base ≤ b) (hl : cs.length = n * size) (hm : n ≤ maxLen) : W.ownsRow base e size (.slice (some ⟨b, 0, none⟩) n n) n cs :=
 ⟨hl, .inr ⟨b, n, cs.toArray, rfl, hb, h, Nat.le_refl _, hm, by simpa using hl, by simp [← hl]⟩⟩
theorem ints_block {W : World} {b e : Nat} (xs : List Int) (n : Nat) (hn : xs.length = n) (h : W.heap[b]? = some (.cells (xs.map vint).toArray e)) (hm : n ≤ maxLen) : Ints W (.slice (some ⟨b, 0, none⟩) n n) xs := by
 subst hn
 exact Arr.of_own (own_block (base := 0) (size := 1) h (Nat.zero_le _) (by simp) hm)
theorem pset5 {W : World} {X : Nat} {a b c d e : Value} {t : TypeId} (h : W.heap[X]? = some (Obj.cells #[a, b, c, d, e] t)) (u0 u1 u2 u3 u4 : Value) : (((((W.setCell ⟨X, 0, none⟩ u0).setCell ⟨X, 1, none⟩ u1).setCell ⟨X, 2, none⟩ u2).setCell ⟨X, 3, none⟩ u3).setCell ⟨X, 4, none⟩ u4).heap[X]? = some (.cells #[u0, u1, u2, u3, u4] t) := by
 simp only [World.setCell, Array.getElem?_modify, h]
 simp
theorem pset5b {n : Nat} {w W : World} {X : Nat} (h : Below n w W) (hX : n ≤ X) (u0 u1 u2 u3 u4 : Value) : Below n w (((((W.setCell ⟨X, 0, none⟩ u0).setCell ⟨X, 1, none⟩ u1).setCell ⟨X, 2, none⟩ u2).setCell ⟨X, 3, none⟩ u3).setCell ⟨X, 4, none⟩ u4) :=
 ((((Below.setCell h (p := ⟨X, 0, none⟩) hX _).setCell (p := ⟨X, 1, none⟩) hX _).setCell (p := ⟨X, 2, none⟩) hX _).setCell (p := ⟨X, 3, none⟩) hX _).setCell (p := ⟨X, 4, none⟩) hX _
theorem pf_l9_example (w : World) : Calls Tryz.prog 13 #[] w fun e w' => ∃ vh vr z, e = .returned (.agg #[vh, .int .i64 1, .int .i64 2, .int .i64 10, .int .i64 10, vr]) ∧ Below w.heap.size w w' ∧ w.heap.size ≤ z ∧ z ≤ w'.heap.size ∧ (∀ V : World, z ≤ V.heap.size → (∀ b, b < z → V.heap[b]? = w'.heap[b]?) → HeadsL V vh exP.hs) ∧ w'.ownsRow z 54 4 vr 4 (exP.rds.flatMap rdEnc) := by
 obtain ⟨W1, hW1, hb1, k1⟩ := newb w (.cells #[.slice none 0 0, .int .i64 0, .int .i64 0, .int .i64 0, .int .i64 0, .slice none 0 0] 25)
 obtain ⟨W2, hW2, hb2, k2⟩ := newb W1 (.cells #[.int .i64 0, .int .i64 3, .int .i64 0, .int .i64 0, .int .i64 3, .int .i64 0] 3)
 obtain ⟨W3, hW3, hb3, k3⟩ := newb W2 (.cells #[.int .i64 0] 3)
 obtain ⟨W4, hW4, hb4, k4⟩ := newb W3 (.cells #[.slice (some ⟨W1.heap.size, 0, none⟩) 6 6, .slice (some ⟨W2.heap.size, 0, none⟩) 1 1] 44)
 obtain ⟨W5, hW5, hb5, k5⟩ := newb W4 (.cells #[.int .i64 0, .int .i64 0, .int .i64 100, .int .i64 100, .int .i64 0, .int .i64 1, .int .i64 106, .int .i64 106, .int .i64 0, .int .i64 2, .int .i64 100, .int .i64 100, .int .i64 1, .int .i64 2, .int .i64 116, .int .i64 116] 54)
 have hb23 := bel_set hb2 (bel_set hb3 (bel_set hb4 hb5))
 have k15 := blk hb23 k1
 have k25 := blk (bel_set hb3 (bel_set hb4 hb5)) k2
 have k35 := blk (bel_set hb4 hb5) k3
 have k45 := blk hb5 k4
 have hb15 := bel_set hb1 hb23
 have z1 := hb1.size
 have z2 := gsl k2
 have z3 := gsl k3
 have z4 := gsl k4
 have z5 := hb5.size
 have zw := gsl k1
 obtain ⟨c0, c1, c2, c3, c4, c5⟩ := pc6 k15
 have f0 := pfrz k15 0
 have f1 := pfrz k15 1
 have f2 := pfrz k15 2
 have f3 := pfrz k15 3
 have f4 := pfrz k15 4
 have f5 := pfrz k15 5
 have p6 := pset6 k15 (.slice (some ⟨W3.heap.size, 0, none⟩) 1 1) (.int .i64 1) (.int .i64 2) (.int .i64 10) (.int .i64 10) (.slice (some ⟨W4.heap.size, 0, none⟩) 4 4)
 have p6b := pset6b hb15 (Nat.le_refl _) (.slice (some ⟨W3.heap.size, 0, none⟩) 1 1) (.int .i64 1) (.int .i64 2) (.int .i64 10) (.int .i64 10) (.slice (some ⟨W4.heap.size, 0, none⟩) 4 4)
 have hkp := fun {b : Nat} (hb : w.heap.size < b) => set6_kept W5 (.slice (some ⟨W3.heap.size, 0, none⟩) 1 1) (.int .i64 1) (.int .i64 2) (.int .i64 10) (.int .i64 10) (.slice (some ⟨W4.heap.size, 0, none⟩) 4 4) hb
 have hsz := set6_size (n := w.heap.size) W5 (.slice (some ⟨W3.heap.size, 0, none⟩) 1 1) (.int .i64 1) (.int .i64 2) (.int .i64 10) (.int .i64 10) (.slice (some ⟨W4.heap.size, 0, none⟩) 4 4)
 have g2 := (hkp (show w.heap.size < W1.heap.size by omega)).trans k25
 have g3 := (hkp (show w.heap.size < W2.heap.size by omega)).trans k35
 have g4 := (hkp (show w.heap.size < W3.heap.size by omega)).trans k45
 have g5 := (hkp (show w.heap.size < W4.heap.size by omega)).trans k5
 have ⟨hb1', k1', hb2', k2', hb3', k3', hb4', k4'⟩ := hyd8 hb1 k1 hb2 k2 hb3 k3 hb4 k4
 have ⟨hb5', k5', hb23', k15', k25', k35', k45', hb15'⟩ := hyd8 hb5 k5 hb23 k15 k25 k35 k45 hb15
 have ⟨p6', p6b', hsz', g2', g3', g4', g5'⟩ := hyd7 p6 p6b hsz g2 g3 g4 g5
 clear g5 g4 g3 g2 hsz p6b p6 hb15 k45 k35 k25 k15 hb23 k5 hb5 k4 hb4 k3 hb3 k2 hb2 k1 hb1
 clear hkp
 go_enter Tryz.func13, Tryz.ntmps13
 go_wp2_with (fail)
 clear c0 c1 c2 c3 c4 c5 f0 f1 f2 f3 f4 f5
 obtain ⟨c0, c1, c2, c3, c4, c5⟩ := pc6 p6'.out
 refine bodyPost_ret (v := .agg #[.slice (some ⟨W3.heap.size, 0, none⟩) 1 1, .int .i64 1, .int .i64 2, .int .i64 10, .int .i64 10, .slice (some ⟨W4.heap.size, 0, none⟩) 4 4]) (by simp [results, Tryz.results13, go_sem, c0, c1, c2, c3, c4, c5]) rfl ⟨_, _, W4.heap.size, rfl, p6b'.out, by omega, by rw [hsz'.out]; exact hb5'.out.size, fun V hzV hV => ?_, own_block (cs := exP.rds.flatMap rdEnc) g5'.out (Nat.le_refl _) rfl (by decide)⟩
 have v2 := (hV W1.heap.size (by omega)).trans g2'.out
 have v3 := (hV W2.heap.size (by omega)).trans g3'.out
 have v4 := (hV W3.heap.size (by omega)).trans g4'.out
 obtain ⟨d0, d1⟩ := pc2 v4
 refine ⟨some ⟨W3.heap.size, 0, none⟩, 1, rfl, Nat.le_refl _, by decide, (fun h => by cases h), fun _ => ⟨W3.heap.size, 0, rfl, gsl v4, fun j hj => ?_⟩⟩
 obtain rfl : j = 0 := by simpa [exP] using hj
 exact ⟨_, _, d0, d1, ints_block [0, 3, 0, 0, 3, 0] 6 rfl v2 (by decide), ints_block [0] 1 rfl v3 (by decide)⟩
theorem pf_l9_set (w : World) : Calls Tryz.prog 14 #[] w fun e w' => e = .returned (fndV ⟨0, 2, 10, 100, 100⟩) ∧ Below w.heap.size w w' := by
 obtain ⟨W1, hW1, hb1, k1⟩ := newb w (.cells #[.int .i64 0, .int .i64 0, .int .i64 0, .int .i64 0, .int .i64 0] 35)
 obtain ⟨c0, c1, c2, c3, c4⟩ := pc5 k1
 have f0 := pfrz k1 0
 have f1 := pfrz k1 1
 have f2 := pfrz k1 2
 have f3 := pfrz k1 3
 have f4 := pfrz k1 4
 have ⟨hb1', k1'⟩ := hyd2 hb1 k1
 clear k1 hb1
 go_enter Tryz.func14, Tryz.ntmps14
 go_wp2_with (fail)
 clear c0 c1 c2 c3 c4 f0 f1 f2 f3 f4
 have p5 := pset5 k1'.out (.int .i64 0) (.int .i64 2) (.int .i64 10) (.int .i64 100) (.int .i64 100)
 obtain ⟨c0, c1, c2, c3, c4⟩ := pc5 p5
 exact bodyPost_ret (v := .agg #[.int .i64 0, .int .i64 2, .int .i64 10, .int .i64 100, .int .i64 100]) (by simp [results, Tryz.results14, go_sem, c0, c1, c2, c3, c4]) rfl ⟨rfl, pset5b hb1'.out (Nat.le_refl _) _ _ _ _ _⟩
def exF : Fnd := ⟨0, 2, 10, 100, 100⟩
theorem ex_findE : findE exP = 0 := by kernel_rfl
theorem ex_findV : findL exP = [exF] := by kernel_rfl
theorem ex_simpE : simpE exP exF 100 = 0 := by kernel_rfl
theorem ex_ros : (simpP exP exF 100).ros = [0, 3, 0, 0, 3, 0] := by kernel_rfl
theorem ex_shifts : (simpP exP exF 100).shifts = [1] := by kernel_rfl
theorem ex_confE : confE exQ = 0 := by kernel_rfl
theorem ex_confL : confL exQ = [3, 4] := by kernel_rfl
theorem ex_rebE : rebE [0, 4, 0, 0, 0, 0] [5, 5, 5, 0, 0, 0] [0, 0, 0] = 0 := by kernel_rfl
theorem ex_rebL : rebL [0, 4, 0, 0, 0, 0] [5, 5, 5, 0, 0, 0] [0, 0, 0] = [0, 5, 0, 0, 0, 0] := by kernel_rfl
theorem exP_fit : exP.Fit := ⟨by simp only [fit64, exP]; decide, by simp only [fit64, exP]; decide, by simp only [fit64, exP]; decide, by simp only [fit64, exP]; decide, by simp only [fit64, exP]; decide, by simp only [fit64, exP]; decide⟩
theorem exQ_fit : exQ.Fit := ⟨by simp only [fit64, exQ]; decide, by simp only [fit64, exQ]; decide, by simp only [fit64, exQ]; decide, by simp only [fit64, exQ]; decide, by simp only [fit64, exQ]; decide, by simp only [fit64, exQ]; decide⟩
theorem exF_fit : exF.Fit := by
 unfold Fnd.Fit fit64 exF
 decide
end Go.Proofs.YtphdalgaemefoaaGreat
namespace Go.Proofs.YtphdalgaemefoaaGreat
set_option maxRecDepth 100000
set_option maxHeartbeats 1000000
open Go.RowKit Go.Shelf
set_option linter.unusedVariables false
set_option linter.unusedSimpArgs false
theorem exP_pic {w : World} {n : Nat} {vh vr : Value} (hh : HeadsL w vh exP.hs) (ho : w.ownsRow n 54 4 vr 4 (exP.rds.flatMap rdEnc)) : IsPic w (.agg #[vh, .int .i64 1, .int .i64 2, .int .i64 10, .int .i64 10, vr]) exP := ⟨_, _, rfl, hh, SV.of_own (base := n) (e := 54) (enc := rdEnc) (fun _ => rfl) ho⟩
theorem own_other {w : World} {base e size n B k : Nat} {v : Value} {xs : List Value} (h : w.ownsRow base e size v n xs) (hne : ∀ r, v.ownBlock = some r → r ≠ B) (u : Value) : (w.setCell ⟨B, k, none⟩ u).ownsRow base e size v n xs := by
 refine ⟨h.1, ?_⟩
 rcases h.2 with h' | ⟨g', cap, cur, hv, hb, hh, r⟩
 ·exact .inl h'
 ·exact .inr ⟨g', cap, cur, hv, hb, (Below.heap_setCell _ ⟨B, k, none⟩ _ g' (hne g' (by rw [hv]; rfl))).trans hh, r⟩
theorem exF_val : fndV exF = .agg #[.int .i64 0, .int .i64 2, .int .i64 10, .int .i64 100, .int .i64 100] := rfl
theorem pf_l9_alive (w : World) : Calls Tryz.prog 4 #[] w fun e w' => e = .returned (.bool true) ∧ Below w.heap.size w w' := by
 have kex := fun W => pf_l9_example W
 have kset : ∀ W, Calls Tryz.prog 14 #[] W fun e w' => e = .returned (.agg #[.int .i64 0, .int .i64 2, .int .i64 10, .int .i64 100, .int .i64 100]) ∧ Below W.heap.size W w' := fun W => pf_l9_set W
 have kfi : ∀ v W, IsPic W v exP → Calls Tryz.prog 6 #[v] W fun e w' => ∃ v', e = .returned (.tuple #[v', .int .i64 0]) ∧ Below W.heap.size W w' ∧ FndL w' v' [exF] := fun v W h => by
  have := pf_rd_Find v exP W h exP_fit (by decide)
  rwa [ex_findE, ex_findV] at this
 have ksi : ∀ v W, IsPic W v exP → Calls Tryz.prog 7 #[v, fndV exF, .int .i64 100] W fun e w' => ∃ v', e = .returned (.tuple #[v', .int .i64 0]) ∧ Below W.heap.size W w' ∧ NewProg W.heap.size w' v' (simpP exP exF 100) := fun v W h => by
  have := pf_rd_Simplest v exP exF 100 W h exP_fit exF_fit (by unfold fit64; decide)
  rwa [ex_simpE] at this
 have kco : ∀ v W, IsPic W v exQ → Calls Tryz.prog 15 #[v] W fun e w' => ∃ v', e = .returned (.tuple #[v', .int .i64 0]) ∧ Below W.heap.size W w' ∧ Ints w' v' [3, 4] := fun v W h => by
  have := pf_rd_Conflict v exQ W h exQ_fit (by decide)
  rwa [ex_confE, ex_confL] at this
 obtain ⟨q, hq⟩ : ∃ q, simpP exP exF 100 = q := ⟨_, rfl⟩
 have hros : q.ros = [0, 3, 0, 0, 3, 0] := by rw [← hq]; exact ex_ros
 have hshi : q.shifts = [1] := by rw [← hq]; exact ex_shifts
 rw [hq] at ksi
 rw [exF_val] at ksi
 clear hq
 have ⟨kex', kset', kfi', ksi', kco', hros', hshi'⟩ := hyd7 kex kset kfi ksi kco hros hshi
 clear hshi hros kco ksi kfi kset kex
 go_enter Tryz.func4, Tryz.ntmps4
 go_wp2_with (fail)
 go_at_call 13
 refine (kex'.out w).mono ?_
 rintro e W1 ⟨vh1, vr1, z1, rfl, hb1, -, y1, hV1, ho1⟩
 have hh1 := hV1 W1 y1 (fun _ _ => rfl)
 have hp1 := exP_pic hh1 ho1
 obtain ⟨HA1, hc1, rfl, -⟩ := hh1.slice
 obtain ⟨RA1, rc1, rfl⟩ := slice_formR ho1
 have ⟨hb1', hh1', ho1', hp1', hV1'⟩ := hyd5 hb1 hh1 ho1 hp1 hV1
 clear hV1 hp1 ho1 hh1 hb1
 go_wp2_with (fail)
 go_at_call 6
 refine (kfi'.out _ W1 hp1'.out).mono ?_
 rintro e W2 ⟨vf, rfl, hb2, hf2⟩
 have hbw2 := bel_set hb1'.out hb2
 have ⟨hb2', hf2', hbw2'⟩ := hyd3 hb2 hf2 hbw2
 clear hbw2 hf2 hb2
 go_wp2_with (fail)
 go_at_call 13
 refine (kex'.out W2).mono ?_
 rintro e W3 ⟨vh3, vr3, z3, rfl, hb3, -, y3, hV3, ho3⟩
 have hh3 := hV3 W3 y3 (fun _ _ => rfl)
 have hp3 := exP_pic hh3 ho3
 obtain ⟨HA3, hc3, rfl, -⟩ := hh3.slice
 obtain ⟨RA3, rc3, rfl⟩ := slice_formR ho3
 have hbw3 := bel_set hbw2'.out hb3
 have ⟨hb3', hh3', ho3', hp3', hbw3', hV3'⟩ := hyd6 hb3 hh3 ho3 hp3 hbw3 hV3
 clear hV3 hbw3 hp3 ho3 hh3 hb3
 go_wp2_with (fail)
 go_at_call 14
 refine (kset'.out W3).mono ?_
 rintro e W4 ⟨rfl, hb4⟩
 have hbw4 := bel_set hbw3'.out hb4
 have hp4 := hp3'.out.le hb4
 have ⟨hb4', hbw4', hp4'⟩ := hyd3 hb4 hbw4 hp4
 clear hp4 hbw4 hb4
 go_wp2_with (fail)
 go_at_call 7
 refine (ksi'.out _ W4 hp4'.out).mono ?_
 rintro e W5 ⟨vx, rfl, hb5, hx⟩
 obtain ⟨x0, x1, x5, rfl, i0, o1, i5⟩ := hx
 obtain ⟨I0, j0, rfl, -⟩ := id i0
 obtain ⟨I5, j5, rfl, -⟩ := id i5
 obtain ⟨I1, j1, rfl⟩ := slice_formR o1
 obtain ⟨W6, hW6, hb6, k6⟩ := newb W5 (.cells #[.slice I0 q.ros.length j0, .slice I1 q.rub.length j1, .int .i64 q.start, .int .i64 q.throw, .int .i64 q.adv, .slice I5 q.shifts.length j5] 38)
 have hbw6 := bel_set hbw4'.out (bel_set hb5 hb6)
 have i06 := i0.below hb6
 have i56 := i5.below hb6
 have f26 := hf2'.out.le (bel_set hb3'.out (bel_set hb4'.out (bel_set hb5 hb6)))
 have ⟨hb5', i0', o1', i5', hb6', k6', hbw6', i06'⟩ := hyd8 hb5 i0 o1 i5 hb6 k6 hbw6 i06
 have ⟨i56', f26'⟩ := hyd2 i56 f26
 clear f26 i56 i06 hbw6 k6 hb6 i5 o1 i0 hb5
 go_wp2_with (fail)
 clear hW6
 go_at_call 13
 refine (kex'.out W6).mono ?_
 rintro e W7 ⟨vh7, vr7, zz, rfl, hb7, y7, y8, hV7, ho7⟩
 have hh7 := hV7 W7 y8 (fun _ _ => rfl)
 obtain ⟨HA7, hc7, rfl, -⟩ := hh7.slice
 obtain ⟨RA7, rc7, rfl⟩ := slice_formR ho7
 obtain ⟨W8, hW8, hb8, k8⟩ := newb W7 (.cells #[.slice HA7 exP.hs.length hc7, .int .i64 1, .int .i64 2, .int .i64 10, .int .i64 10, .slice RA7 4 rc7] 25)
 have hb68 := bel_set hb7 hb8
 have hbw8 := bel_set hbw6'.out hb68
 obtain ⟨c0, c1, c2, c3, c4, c5⟩ := pc6 k8
 have g5 := pfrz k8 5
 obtain ⟨W9, hW9, hb9, k9⟩ := newb W8 (.cells #[.int .i64 1, .int .i64 5, .int .i64 110, .int .i64 110] 54)
 have ho9 := own_below (own_below ho7 hb8) hb9
 have k89 := blk hb9 k8
 have hb69 := bel_set hb68 hb9
 have hz9 := hb69.size
 have hz89 := hb9.size
 have z6 := hb7.size
 have z7 := gsl k8
 have hnew : ∀ (i : Nat) (u : Value), (rdEnc ⟨1, 5, 110, 110⟩)[i]? = some u → W9.cell? ⟨W8.heap.size, i, none⟩ = some u := fun i u hu => by
  have hi4 : i < 4 := (List.getElem?_eq_some_iff.1 hu).1
  obtain ⟨n0, n1, n2, n3⟩ := pc4 k9
  match i, hi4 with
  | 0, _ => rw [n0]; simpa [rdEnc] using hu
  | 1, _ => rw [n1]; simpa [rdEnc] using hu
  | 2, _ => rw [n2]; simpa [rdEnc] using hu
  | 3, _ => rw [n3]; simpa [rdEnc] using hu
 have hV9 : ∀ V : World, zz ≤ V.heap.size → (∀ b, b < zz → V.heap[b]? = W9.heap[b]?) → HeadsL V (.slice HA7 exP.hs.length hc7) exP.hs := fun V h1 h2 => hV7 V h1 fun b hb => (h2 b hb).trans ((bel_set hb8 hb9).block b (by omega))
 have hne7 : ∀ r, (Value.slice RA7 4 rc7).ownBlock = some r → r < W7.heap.size := fun r e => (ho7.lt r e).2
 have ⟨hb7', ho7', hb8', k8', hb68', hbw8', hb9', k9'⟩ := hyd8 hb7 ho7 hb8 k8 hb68 hbw8 hb9 k9
 have ⟨ho9', k89', hb69', hnew', hV7', hV9', hne7', hh7'⟩ := hyd8 ho9 k89 hb69 hnew hV7 hV9 hne7 hh7
 clear hh7 hne7 hV9 hV7 hnew hb69 k89 ho9 k9 hb9 hbw8 hb68 k8 hb8 ho7 hb7
 go_wp2_with (first | (at_builtin; go_must (refine wpList_appT (enc := rdEnc) (k := 4) (bytes := 32) _ rfl _ _ 23 (fun _ => rfl) (fun x u hu => by simp [rdEnc] at hu; rcases hu with rfl | rfl | rfl | rfl <;> rfl) (by decide) rfl (by decide) rfl zz 54 Tryz.underlying23 rdgInfo (.slice RA7 4 rc7) exP.rds rfl ho9'.out W8.heap.size ⟨1, 5, 110, 110⟩ rfl hnew'.out (by decide) (by omega) ?_)))
 intro v10 W10 q1 q2 q3
 have q1b : W10.ownsRow zz 54 4 v10 5 (exQ.rds.flatMap rdEnc) := q1
 obtain ⟨A10, c10, rfl⟩ := slice_formR q1b
 have hown9 : ∀ r, (Value.slice RA7 4 rc7).ownBlock = some r → zz ≤ r := fun r e => (ho9'.out.lt r e).1
 have k10 := (q2.block _ (gsl k89'.out) (fun e => by have := hne7'.out _ e.symm; omega)).trans k89'.out
 have hb910 : Below zz W9 W10 := Below.grown (Below.refl _ _) q2 (by omega) hown9
 have hb610 : Below W6.heap.size W6 W10 := hb69'.out.trans (hb910.mono y7)
 have hz10 := hb910.size
 obtain ⟨e0, e1, e2, e3, e4, e5⟩ := pc6 k10
 have t5 := pfrz k10 5
 obtain ⟨W11, hW11, hb11, k11, o11, hh11⟩ : ∃ V, W10.setCell ⟨W7.heap.size, 5, none⟩ (.slice A10 5 c10) = V ∧ Below W6.heap.size W6 V ∧ V.heap[W7.heap.size]? = some (.cells #[.slice HA7 exP.hs.length hc7, .int .i64 1, .int .i64 2, .int .i64 10, .int .i64 10, .slice A10 5 c10] 25) ∧ V.ownsRow zz 54 4 (.slice A10 5 c10) 5 (exQ.rds.flatMap rdEnc) ∧ HeadsL V (.slice HA7 exP.hs.length hc7) exP.hs := by
  refine ⟨_, rfl, Below.setCell hb610 (p := ⟨W7.heap.size, 5, none⟩) z6 _, heap_set k10 5 _, own_other q1b (fun r e => ?_) _, hV9'.out _ (by simp [World.setCell]; omega) fun b hb => ?_⟩
  ·rcases q3 r e with h | h
   ·have := hne7'.out r h; omega
   ·omega
  ·exact (Below.heap_setCell _ ⟨W7.heap.size, 5, none⟩ _ b (by show b ≠ W7.heap.size; omega)).trans (hb910.block b hb)
 obtain ⟨d0, d1, d2, d3, d4, d5⟩ := pc6 k11
 have hq11 : IsPic W11 (.agg #[.slice HA7 exP.hs.length hc7, .int .i64 1, .int .i64 2, .int .i64 10, .int .i64 10, .slice A10 5 c10]) exQ := ⟨_, _, rfl, hh11, SV.of_own (base := zz) (e := 54) (enc := rdEnc) (fun _ => rfl) o11⟩
 have ⟨q1', q1b', q2', q3', hown9', k10', hb910', hb610'⟩ := hyd8 q1 q1b q2 q3 hown9 k10 hb910 hb610
 have ⟨hb11', k11', o11', hh11', hq11'⟩ := hyd5 hb11 k11 o11 hh11 hq11
 clear hq11 hh11 o11 k11 hb11 hb610 hb910 k10 hown9 q3 q2 q1b q1
 go_wp2_with (fail)
 clear e0 e1 e2 e3 e4 e5 t5 c0 c1 c2 c3 c4 c5 g5 d0 d1 d2 d3 d4 d5 hW11
 go_at_call 15
 refine (kco'.out _ W11 hq11'.out).mono ?_
 rintro e W12 ⟨vc, rfl, hb12, hi12⟩
 obtain ⟨CA, cc, rfl, -⟩ := id hi12
 have hb612 := bel_set hb11'.out hb12
 obtain ⟨W13, hW13, hb13, k13⟩ := newb W12 (.cells #[.int .i64 0, .int .i64 4, .int .i64 0, .int .i64 0, .int .i64 0, .int .i64 0] 3)
 obtain ⟨W14, hW14, hb14, k14⟩ := newb W13 (.cells #[.int .i64 5, .int .i64 5, .int .i64 5, .int .i64 0, .int .i64 0, .int .i64 0] 3)
 obtain ⟨W15, hW15, hb15, k15⟩ := newb W14 (.cells #[.int .i64 0, .int .i64 0, .int .i64 0] 3)
 have r13 : Ints W15 (.slice (some ⟨W12.heap.size, 0, none⟩) 6 6) [0, 4, 0, 0, 0, 0] := ints_block _ 6 rfl (blk hb15 (blk hb14 k13)) (by decide)
 have r14 : Ints W15 (.slice (some ⟨W13.heap.size, 0, none⟩) 6 6) [5, 5, 5, 0, 0, 0] := ints_block _ 6 rfl (blk hb15 k14) (by decide)
 have r15 : Ints W15 (.slice (some ⟨W14.heap.size, 0, none⟩) 3 3) [0, 0, 0] := ints_block _ 3 rfl k15 (by decide)
 have kre : Calls Tryz.prog 16 #[.slice (some ⟨W12.heap.size, 0, none⟩) 6 6, .slice (some ⟨W13.heap.size, 0, none⟩) 6 6, .slice (some ⟨W14.heap.size, 0, none⟩) 3 3] W15 fun e w' => ∃ v' N, e = .returned (.tuple #[v', .int .i64 N, .int .i64 0]) ∧ Below W15.heap.size W15 w' ∧ Ints w' v' [0, 5, 0, 0, 0, 0] := (pf_Rebuild _ _ _ _ _ _ W15 r13 r14 r15).mono fun e w' ⟨v', h1, h2, h3⟩ => ⟨v', ((rebN [0, 4, 0, 0, 0, 0] [5, 5, 5, 0, 0, 0] [0, 0, 0] : Nat) : Int), h1.trans (congrArg (fun z => Ending.returned (.tuple #[v', .int .i64 ((rebN [0, 4, 0, 0, 0, 0] [5, 5, 5, 0, 0, 0] [0, 0, 0] : Nat) : Int), .int .i64 z])) ex_rebE), h2, by rw [ex_rebL] at h3; exact Arr.of_own h3⟩
 have hb1215 := bel_set hb13 (bel_set hb14 hb15)
 have hi15 := hi12.below hb1215
 have hb615 := bel_set hb612 hb1215
 have ⟨hb12', hi12', hb612', hb13', k13', hb14', k14', hb15'⟩ := hyd8 hb12 hi12 hb612 hb13 k13 hb14 k14 hb15
 have ⟨k15', r13', r14', r15', kre', hb1215', hi15', hb615'⟩ := hyd8 k15 r13 r14 r15 kre hb1215 hi15 hb615
 clear hb615 hi15 hb1215 kre r15 r14 r13 k15 hb15 k14 hb14 k13 hb13 hb612 hi12 hb12
 go_wp2_with (fail)
 clear hW13 hW14 hW15
 go_at_call 16
 refine kre'.out.mono ?_
 rintro e W16 ⟨vr, N, rfl, hb16, hi16⟩
 obtain ⟨RA, rr, rfl, -⟩ := id hi16
 have hb616 := bel_set hb615'.out hb16
 have hbw16 := bel_set hbw6'.out hb616
 have hc16 := hi15'.out.below hb16
 have k616 := blk hb616 k6'.out
 have i016 := i06'.out.below hb616
 have i516 := i56'.out.below hb616
 have f216 := f26'.out.le hb616
 obtain ⟨FA, fc, rfl, -⟩ := f216.slice
 obtain ⟨p0, p1, p2, p3, p4, p5⟩ := pc6 k616
 have ⟨hb16', hi16', hb616', hbw16', hc16', k616', i016', i516'⟩ := hyd8 hb16 hi16 hb616 hbw16 hc16 k616 i016 i516
 have f216' := hyd1 f216
 clear f216 i516 i016 k616 hc16 hbw16 hb616 hi16 hb16
 go_wp2_with (fail)
 go_at_call 14
 refine (kset'.out W16).mono ?_
 rintro e W17 ⟨rfl, hb17⟩
 obtain ⟨W18, hW18, hb18, k18⟩ := newb W17 (.cells #[.int .i64 0, .int .i64 2, .int .i64 10, .int .i64 100, .int .i64 100] 35)
 have f218 := (f216'.out.le hb17).le hb18
 have f18 : FndL W18 (.slice (some ⟨W17.heap.size, 0, none⟩) 1 1) [exF] := SV.of_own (e := 35) (enc := fndEnc) (fun _ => rfl) (own_block (base := 0) (cs := [exF].flatMap fndEnc) k18 (Nat.zero_le _) rfl (by decide))
 have ksf : Calls Tryz.prog 17 #[.slice FA 1 fc, .slice (some ⟨W17.heap.size, 0, none⟩) 1 1] W18 fun e w' => e = .returned (.bool true) ∧ Below W18.heap.size W18 w' := (pf_r9_SameFound _ _ [exF] [exF] W18 f218 f18).mono fun e w' ⟨h1, n, h2⟩ => ⟨by rw [h1]; rfl, by rw [h2]; exact Below.of_drewN _ _⟩
 have hb1618 := bel_set hb17 hb18
 clear p0 p1 p2 p3 p4 p5
 have ⟨hb17', hb18', k18', f218', f18', ksf', hb1618'⟩ := hyd7 hb17 hb18 k18 f218 f18 ksf hb1618
 clear hb1618 ksf f18 f218 k18 hb18 hb17
 go_wp2_with (fail)
 clear hW18
 go_at_call 17
 refine ksf'.out.mono ?_
 rintro e W19 ⟨rfl, hb19⟩
 have hb1619 := bel_set hb1618'.out hb19
 have k619 := blk hb1619 k616'.out
 obtain ⟨p0, p1, p2, p3, p4, p5⟩ := pc6 k619
 obtain ⟨W20, hW20, hb20, k20⟩ := newb W19 (.cells #[.int .i64 0, .int .i64 3, .int .i64 0, .int .i64 0, .int .i64 3, .int .i64 0] 3)
 have hb1620 := bel_set hb1619 hb20
 have r20 : Ints W20 (.slice (some ⟨W19.heap.size, 0, none⟩) 6 6) [0, 3, 0, 0, 3, 0] := ints_block _ 6 rfl k20 (by decide)
 have s20 := i016'.out.below hb1620
 rw [hros'.out] at s20
 have kro := fun v v' xs ys W h1 h2 (hxy : xs = ys) => (pf_l9_same v v' xs ys W h1 h2).mono (R' := fun e w' => e = .returned (.bool true) ∧ Below W.heap.size W w') fun e w' ⟨h1, n, h2⟩ => ⟨by rw [h1, hxy]; simp, by rw [h2]; exact Below.of_drewN _ _⟩
 rw [hros'.out] at *
 have ⟨hb19', hb1619', k619', hb20', k20', hb1620', r20', s20'⟩ := hyd8 hb19 hb1619 k619 hb20 k20 hb1620 r20 s20
 have kro' := hyd1 kro
 clear kro s20 r20 hb1620 k20 hb20 k619 hb1619 hb19
 go_wp2_with (fail)
 clear hW20 p0 p1 p2 p3 p4 p5
 go_at_call 11
 refine (kro'.out _ _ _ _ W20 s20'.out r20'.out rfl).mono ?_
 rintro e W21 ⟨rfl, hb21⟩
 have hb1621 := bel_set hb1620'.out hb21
 obtain ⟨p0, p1, p2, p3, p4, p5⟩ := pc6 (blk hb1621 k616'.out)
 obtain ⟨W22, hW22, hb22, k22⟩ := newb W21 (.cells #[.int .i64 1] 3)
 have hb1622 := bel_set hb1621 hb22
 have r22 : Ints W22 (.slice (some ⟨W21.heap.size, 0, none⟩) 1 1) [1] := ints_block _ 1 rfl k22 (by decide)
 have s22 := i516'.out.below hb1622
 rw [hshi'.out] at s22
 have ⟨hb21', hb1621', hb22', k22', hb1622', r22', s22'⟩ := hyd7 hb21 hb1621 hb22 k22 hb1622 r22 s22
 clear s22 r22 hb1622 k22 hb22 hb1621 hb21
 go_wp2_with (fail)
 clear hW22 p0 p1 p2 p3 p4 p5
 rw [hshi'.out]
 go_at_call 11
 refine (kro'.out _ _ _ _ W22 s22'.out r22'.out rfl).mono ?_
 rintro e W23 ⟨rfl, hb23⟩
 have hb1623 := bel_set hb1622'.out hb23
 obtain ⟨W24, hW24, hb24, k24⟩ := newb W23 (.cells #[.int .i64 3, .int .i64 4] 3)
 have hb1624 := bel_set hb1623 hb24
 have r24 : Ints W24 (.slice (some ⟨W23.heap.size, 0, none⟩) 2 2) [3, 4] := ints_block _ 2 rfl k24 (by decide)
 have s24 := hc16'.out.below hb1624
 have ⟨hb23', hb1623', hb24', k24', hb1624', r24', s24'⟩ := hyd7 hb23 hb1623 hb24 k24 hb1624 r24 s24
 clear s24 r24 hb1624 k24 hb24 hb1623 hb23
 go_wp2_with (fail)
 clear hW24
 go_at_call 11
 refine (kro'.out _ _ _ _ W24 s24'.out r24'.out rfl).mono ?_
 rintro e W25 ⟨rfl, hb25⟩
 have hb1625 := bel_set hb1624'.out hb25
 obtain ⟨W26, hW26, hb26, k26⟩ := newb W25 (.cells #[.int .i64 0, .int .i64 5, .int .i64 0, .int .i64 0, .int .i64 0, .int .i64 0] 3)
 have hb1626 := bel_set hb1625 hb26
 have r26 : Ints W26 (.slice (some ⟨W25.heap.size, 0, none⟩) 6 6) [0, 5, 0, 0, 0, 0] := ints_block _ 6 rfl k26 (by decide)
 have s26 := hi16'.out.below hb1626
 have ⟨hb25', hb1625', hb26', k26', hb1626', r26', s26'⟩ := hyd7 hb25 hb1625 hb26 k26 hb1626 r26 s26
 clear s26 r26 hb1626 k26 hb26 hb1625 hb25
 go_wp2_with (fail)
 clear hW26
 go_at_call 11
 refine (kro'.out _ _ _ _ W26 s26'.out r26'.out rfl).mono ?_
 rintro e W27 ⟨rfl, hb27⟩
 have hbf := bel_set hbw16'.out (bel_set hb1626'.out hb27)
 have ⟨hb27', hbf'⟩ := hyd2 hb27 hbf
 clear hbf hb27
 go_wp2
 go_ret
 exact ⟨rfl, hbf'.out⟩
end Go.Proofs.YtphdalgaemefoaaGreat
