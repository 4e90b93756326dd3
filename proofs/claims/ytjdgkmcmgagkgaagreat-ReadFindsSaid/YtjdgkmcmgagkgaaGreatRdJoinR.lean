/- The reference's joined: ranges and one more. -/
import Derived.Test.YtjdgkmcmgagkgaaGreatRdStartR
import Derived.StillTailTactics
namespace Go.Proofs.YtjdgkmcmgagkgaaGreat
set_option maxRecDepth 100000
set_option maxHeartbeats 2000000
open Go.RowKit
set_option linter.unusedVariables false
set_option linter.unusedSimpArgs false
theorem slice_formR {w : World} {base e size n : Nat} {v : Value} {xs : List Value} (h : w.ownsRow base e size v n xs) : ∃ A c, v = .slice A n c := by
 rcases h.2 with ⟨rfl, rfl⟩ | ⟨g, cap, cur, rfl, _⟩
 ·exact ⟨none, 0, rfl⟩
 ·exact ⟨_, cap, rfl⟩
def SpB (L : List Spn) : Prop := ∀ s ∈ L, (-2000000000000 ≤ s.1 ∧ s.1 ≤ 2000000000000) ∧ (-2000000000000 ≤ s.2 ∧ s.2 ≤ 2000000000000)
theorem spn_flat (L : List Spn) (x : Spn) : (L ++ [x]).flatMap spnEnc = L.flatMap spnEnc ++ [.int .i64 x.1, .int .i64 x.2] := by rw [List.flatMap_append]; simp [spnEnc]
theorem wpList_appS {P : Program} (w : World) {ops : Array Oper} {rest : List Oper} {o : Oper} {a : Act} {Q : Exit → Act → World → Prop} (hgd : o.guard = none) (s x : Operand) (t : TypeId)
  (ho : o.op = .call { callee := .builtin .append, args := #[s, x], argTypes := #[t, t] })
  (base : Nat) (e : TypeId) (ht : P.underlying t = some (.slice e)) (hinfo : (P.info? e).map (fun i => (i.zero, i.size, i.bytes)) = some (some (.agg #[.int .i64 0, .int .i64 0]), 2, 16))
  (v : Value) (L : List Spn) (hs : a.eval s = v) (hown : w.ownsRow base e 2 v L.length (L.flatMap spnEnc))
  (B : Nat) (y : Spn) (hx : a.eval x = .slice (some ⟨B, 0, none⟩) 1 1) (hc0 : w.cell? ⟨B, 0, none⟩ = some (.int .i64 y.1)) (hc1 : w.cell? ⟨B, 1, none⟩ = some (.int .i64 y.2)) (hlen : L.length ≤ 1000000) (hbase : base ≤ w.heap.size)
  (h : ∀ v' w', w'.ownsRow base e 2 v' (L ++ [y]).length ((L ++ [y]).flatMap spnEnc) → (∀ n, n ≤ base → Below n w w') → (∀ k, v'.ownBlock = some k → v.ownBlock = some k ∨ w.heap.size ≤ k) → wpList P ops Q rest (a.put o.dst v') w') : wpList P ops Q (o :: rest) a w := by
 obtain ⟨mi, hmi, hz0, hz1, hzb⟩ := info_parts hinfo
 refine wpList_append_ownB w hgd s x t ho base e mi _ 2 16 ht hmi hz0 hz1 hzb rfl (by decide) v L.length (L.flatMap spnEnc) hs hown ⟨B, 0, none⟩ 1 1 [.int .i64 y.1, .int .i64 y.2] hx rfl (fun j u hu => ?_) (fun u hu => ?_) (by unfold maxLen; omega) (by omega) hbase ?_
 ·have hj : j < 2 := (List.getElem?_eq_some_iff.1 hu).1
  have hadd : (⟨B, 0, none⟩ : Addr).add j = ⟨B, j, none⟩ := by unfold Addr.add; split <;> simp_all
  rw [hadd]
  match j, hj with
  | 0, _ => rw [hc0]; simpa using hu
  | 1, _ => rw [hc1]; simpa using hu
 ·simp at hu; rcases hu with rfl | rfl <;> rfl
 ·intro v' w' h1 h2 h3
  refine h v' w' (by rw [spn_flat, show (L ++ [y]).length = L.length + 1 by simp]; exact h1) (fun n hn => ?_) h3
  exact Below.grown (Below.refl n w) h2 (by omega) (fun k e => by have := (hown.lt k e).1; omega)
theorem joinGo_drop {l : List Spn} {i : Nat} (h : i < l.length) (x : Spn) (done : Bool) (out : List Spn) : joinGo (l.drop i) x done out = if l[i].2 + 1 < x.1 then joinGo (l.drop (i + 1)) x done (out ++ [l[i]]) else if x.2 + 1 < l[i].1 then joinGo (l.drop (i + 1)) x true (if done then out ++ [l[i]] else out ++ [x] ++ [l[i]]) else joinGo (l.drop (i + 1)) (min x.1 l[i].1, max x.2 l[i].2) done out := by
 rw [List.drop_eq_getElem_cons h]; rfl
theorem rangeInfo : (Tryz.prog.info? 120).map (fun i => (i.zero, i.size, i.bytes)) = some (some (.agg #[.int .i64 0, .int .i64 0]), 2, 16) := by kernel_rfl
structure JoX (w : World) (vo : Value) (x1 x2 : Int) (out : List Spn) (W : World) : Prop where
 le : Below w.heap.size w W
 kx : W.heap[w.heap.size]? = some (.cells #[.int .i64 x1, .int .i64 x2] 120)
 own : W.ownsRow (w.heap.size + 1) 120 2 vo out.length (out.flatMap spnEnc)
theorem JoX.later {w : World} {vo : Value} {x1 x2 : Int} {out : List Spn} {W W' : World} (h : JoX w vo x1 x2 out W) (hb : Below W.heap.size W W') : JoX w vo x1 x2 out W' := ⟨bel_set h.le hb, blk hb h.kx, own_below h.own hb⟩
theorem JoX.push {w : World} {vo v' : Value} {x1 x2 : Int} {out : List Spn} {W W' : World} {y : Spn} (h : JoX w vo x1 x2 out W)
  {n : Nat} {xs : List Value} (ho : W'.ownsRow (w.heap.size + 1) 120 2 v' n xs) (hn : n = (out ++ [y]).length) (hxs : xs = (out ++ [y]).flatMap spnEnc) (hb : ∀ n, n ≤ w.heap.size + 1 → Below n W W') : JoX w v' x1 x2 (out ++ [y]) W' :=
 ⟨h.le.trans (hb _ (by omega)), ((hb (w.heap.size + 1) (Nat.le_refl _)).block _ (Nat.lt_succ_self _)).trans h.kx, by rw [← hn, ← hxs]; exact ho⟩
theorem JoX.put0 {w : World} {vo : Value} {x1 x2 : Int} {out : List Spn} {W : World} (h : JoX w vo x1 x2 out W) (y1 : Int) : JoX w vo y1 x2 out (W.setCell ⟨w.heap.size, 0, none⟩ (.int .i64 y1)) :=
 ⟨Below.setCell h.le (p := ⟨w.heap.size, 0, none⟩) (Nat.le_refl _) _, by simp only [World.setCell, Array.getElem?_modify, h.kx]; simp, by
  refine ⟨h.own.1, ?_⟩
  rcases h.own.2 with h' | ⟨g', cap, cur, hv, hb, hh, r⟩
  ·exact .inl h'
  ·exact .inr ⟨g', cap, cur, hv, hb, (Below.heap_setCell _ ⟨w.heap.size, 0, none⟩ _ g' (by show g' ≠ w.heap.size; omega)).trans hh, r⟩⟩
theorem JoX.put1 {w : World} {vo : Value} {x1 x2 : Int} {out : List Spn} {W : World} (h : JoX w vo x1 x2 out W) (y2 : Int) : JoX w vo x1 y2 out (W.setCell ⟨w.heap.size, 1, none⟩ (.int .i64 y2)) :=
 ⟨Below.setCell h.le (p := ⟨w.heap.size, 1, none⟩) (Nat.le_refl _) _, by simp only [World.setCell, Array.getElem?_modify, h.kx]; simp, by
  refine ⟨h.own.1, ?_⟩
  rcases h.own.2 with h' | ⟨g', cap, cur, hv, hb, hh, r⟩
  ·exact .inl h'
  ·exact .inr ⟨g', cap, cur, hv, hb, (Below.heap_setCell _ ⟨w.heap.size, 1, none⟩ _ g' (by show g' ≠ w.heap.size; omega)).trans hh, r⟩⟩
theorem JoX.size {w : World} {vo : Value} {x1 x2 : Int} {out : List Spn} {W : World} (h : JoX w vo x1 x2 out W) : w.heap.size + 1 ≤ W.heap.size := (gsl h.kx)
def JoI (w : World) (l : List Spn) (x0 : Spn) (i : Nat) (vo : Value) (done : Bool) (W : World) : Prop := ∃ x1 x2 out, JoX w vo x1 x2 out W ∧ joinGo (l.drop i) (x1, x2) done out = joinGo l x0 false [] ∧ (-2000000000000 ≤ x1 ∧ x1 ≤ 2000000000000) ∧ (-2000000000000 ≤ x2 ∧ x2 ≤ 2000000000000) ∧ out.length ≤ 2 * i
theorem pf_r9_joined (v : Value) (l : List Spn) (x0 : Spn) (w : World) (hv : SpnL w v l) (hn : Nm l) (hb : SpB l) (hx : SpB [x0]) (hlen : l.length ≤ 100000) :
  Calls Tryz.prog 84 #[v, .agg #[.int .i64 x0.1, .int .i64 x0.2]] w fun e w' => ∃ v', e = .returned v' ∧ Below w.heap.size w w' ∧ SpnL w' v' (joinedL l x0) := by
 obtain ⟨A, c, rfl, -⟩ := hv.slice
 obtain ⟨a0, a1⟩ := x0
 obtain ⟨W0, hW0, hb0, k0⟩ := newb w (.cells #[.int .i64 a0, .int .i64 a1] 120)
 obtain ⟨c0, c1⟩ := pc2 k0
 by_cases hlt : a1 < a0
 ·have hres : joinedL l (a0, a1) = l := by unfold joinedL; exact if_pos hlt
  have hv0 := hv.le hb0
  have ⟨hv', hb0', k0', hn', hb', hx', hres', hv0'⟩ := hyd8 hv hb0 k0 hn hb hx hres hv0
  clear hv0 hres hx hb hn k0 hb0 hv
  go_enter Tryz.func84, Tryz.ntmps84
  go_wp2
  go_ret
  exact ⟨_, rfl, hb0'.out, by rw [hres'.out]; exact hv0'.out⟩
 ·have hres : joinedL l (a0, a1) = joinGo l (a0, a1) false [] := by unfold joinedL; rw [if_neg hlt, joinGo_eq hn (by show a0 ≤ a1; omega)]; rfl
  have hI0 : JoI w l (a0, a1) 0 (.slice none 0 0) false W0 := ⟨a0, a1, [], ⟨hb0, k0, World.ownsRow_nil _ _ _ _⟩, rfl, (hx _ List.mem_cons_self).1, (hx _ List.mem_cons_self).2, by simp⟩
  have ⟨hv', hb0', k0', hn', hb', hx', hres', hI0'⟩ := hyd8 hv hb0 k0 hn hb hx hres hI0
  clear hI0 hres hx hb hn k0 hb0 hv
  go_enter Tryz.func84, Tryz.ntmps84
  go_wp2
  clear hW0
  go_loopw [7, 5, 6] (fun ix vo dn wr => ∃ (i : Nat) (done : Bool), i ≤ l.length ∧ ix = .int .i64 i ∧ dn = .bool done ∧ Hid (JoI w l (a0, a1) i vo done wr)) (fun ix _ _ _ => l.length - (intOf ix).toNat)
  case atStart => exact ⟨0, false, Nat.zero_le _, rfl, rfl, hI0'⟩
  case round =>
   obtain ⟨i, done, hi, rfl, rfl, hI⟩ := hrel
   obtain ⟨x1, x2, out, hJ, hgo, ⟨xb1, xb2⟩, ⟨xb3, xb4⟩, hol⟩ := hI.out
   obtain ⟨AO, cO, rfl⟩ := slice_formR hJ.own
   by_cases hlt2 : i < l.length
   ·obtain ⟨b, off, c2, heq, hblw, -, -⟩ := SpnL.cells hv'.out hlt2
    injection heq with e1 e2 e3
    subst e1 e3
    clear e2
    obtain ⟨b', off', c2, heq, hbl, g0, g1⟩ := SpnL.cells (hv'.out.le hJ.le) hlt2
    injection heq with e1 e2 e3
    injection e1 with e1
    injection e1 with e1 e4
    subst e1 e3 e4
    clear e2
    have hvw := hv'.out.le hJ.le
    obtain ⟨x0c, x1c⟩ := pc2 hJ.kx
    have hsb := hb'.out _ (List.getElem_mem hlt2)
    have hstep := joinGo_drop hlt2 (x1, x2) done out
    rw [hgo] at hstep
    obtain ⟨⟨s1, s2⟩, hs⟩ : ∃ s, l[i] = s := ⟨_, rfl⟩
    rw [hs] at g0 g1 hsb hstep
    dsimp only at g0 g1 hsb hstep
    have j1 : (i : Int) < (l.length : Int) := by omega
    have j2 : (0 : Int) ≤ (i : Int) := by omega
    by_cases t1 : s2 + 1 < x1
    ·rw [if_pos t1] at hstep
     have ⟨hI', hJ', hgo', hvw', hstep', hs'⟩ := hyd6 hI hJ hgo hvw hstep hs
     clear hs hstep hvw hgo hJ hI
     go_wp2
     go_quiet (fail)
     have hJq := hJ'.out.later (below_drewN' (Below.refl _ _) nq)
     have hvq := hvw'.out.drew nq
     obtain ⟨b9, off9, c9, heq, hbl9, h0, h1⟩ := SpnL.cells hvq hlt2
     injection heq with e1 e2 e3
     injection e1 with e1
     injection e1 with e1 e4
     subst e1 e3 e4
     clear e2
     rw [hs'.out] at h0 h1
     dsimp only at h0 h1
     clear g0 g1 x0c x1c
     generalize hw4 : wr.drewN nq = w4 at hJq hvq h0 h1 hbl9 ⊢
     clear hw4
     have hJa := hJq
     have hsza := hJa.size
     obtain ⟨Wa, hWa, hbna, kna⟩ := newb w4 (.cells #[.int .i64 s1, .int .i64 s2] 120)
     obtain ⟨na0, na1⟩ := pc2 kna
     have hKa := hJa.later hbna
     have hoa := hKa.own
     have hza := hKa.size
     have ⟨hJa', hbna', kna', hKa', hoa'⟩ := hyd5 hJa hbna kna hKa hoa
     clear hoa hKa kna hbna hJa
     go_wp2_with (first | (at_builtin; go_must (refine wpList_appS _ rfl _ _ 117 rfl (w.heap.size + 1) 120 Tryz.underlying117 rangeInfo (.slice AO out.length cO) (out) rfl hoa'.out w4.heap.size (s1, s2) rfl na0 na1 (by omega) hza ?_)))
     intro va Va hra hba hwa
     obtain ⟨AOa, cOa, rfl⟩ := slice_formR hra
     have hN := hKa'.out.push (y := (s1, s2)) hra (by simp) (by simp) hba
     have ⟨hJq', hvq', hra', hba', hwa', hN'⟩ := hyd6 hJq hvq hra hba hwa hN
     clear hN hwa hba hra hvq hJq
     go_wp2
     go_roundw
     case rel => exact ⟨i + 1, done, by omega, by go_num, rfl, ⟨_, _, _, hN'.out, hstep'.out.symm, ⟨xb1, xb2⟩, ⟨xb3, xb4⟩, by simp; omega⟩⟩
     case measure => simp [intOf]; omega
    ·rw [if_neg t1] at hstep
     by_cases t2 : x2 + 1 < s1
     ·rw [if_pos t2] at hstep
      have ⟨hI', hJ', hgo', hvw', hstep', hs'⟩ := hyd6 hI hJ hgo hvw hstep hs
      clear hs hstep hvw hgo hJ hI
      go_wp2
      go_quiet (fail)
      have hJq := hJ'.out.later (below_drewN' (Below.refl _ _) nq)
      have hvq := hvw'.out.drew nq
      obtain ⟨bq, offq, cq, heq, hblq, hq0, hq1⟩ := SpnL.cells hvq hlt2
      injection heq with e1 e2 e3
      injection e1 with e1
      injection e1 with e1 e4
      subst e1 e3 e4
      clear e2
      rw [hs'.out] at hq0 hq1
      dsimp only at hq0 hq1
      obtain ⟨xq0, xq1⟩ := pc2 hJq.kx
      clear g0 g1 x0c x1c
      generalize hwq : wr.drewN nq = wq at hJq hvq hq0 hq1 hblq xq0 xq1 ⊢
      clear hwq
      have ⟨hJq', hvq'⟩ := hyd2 hJq hvq
      clear hvq hJq
      go_wp2
      go_quiet (fail)
      have hJr := hJq'.out.later (below_drewN' (Below.refl _ _) nq)
      have hvr := hvq'.out.drew nq
      obtain ⟨br, offr, cr, heq, hblr, hr0, hr1⟩ := SpnL.cells hvr hlt2
      injection heq with e1 e2 e3
      injection e1 with e1
      injection e1 with e1 e4
      subst e1 e3 e4
      clear e2
      rw [hs'.out] at hr0 hr1
      dsimp only at hr0 hr1
      obtain ⟨xr0, xr1⟩ := pc2 hJr.kx
      clear hq0 hq1 xq0 xq1
      generalize hwr : wq.drewN nq = wR at hJr hvr hr0 hr1 hblr xr0 xr1 ⊢
      clear hwr
      have ⟨hJr', hvr'⟩ := hyd2 hJr hvr
      clear hvr hJr
      cases done with
      | true =>
       have hJa := hJr'.out
       have hsza := hJa.size
       obtain ⟨Wa, hWa, hbna, kna⟩ := newb wR (.cells #[.int .i64 s1, .int .i64 s2] 120)
       obtain ⟨na0, na1⟩ := pc2 kna
       have hKa := hJa.later hbna
       have hoa := hKa.own
       have hza := hKa.size
       have ⟨hJa', hbna', kna', hKa', hoa'⟩ := hyd5 hJa hbna kna hKa hoa
       clear hoa hKa kna hbna hJa
       go_wp2_with (first | (at_builtin; go_must (refine wpList_appS _ rfl _ _ 117 rfl (w.heap.size + 1) 120 Tryz.underlying117 rangeInfo (.slice AO out.length cO) (out) rfl hoa'.out wR.heap.size (s1, s2) rfl na0 na1 (by omega) hza ?_)))
       intro va Va hra hba hwa
       obtain ⟨AOa, cOa, rfl⟩ := slice_formR hra
       have hN := hKa'.out.push (y := (s1, s2)) hra (by simp) (by simp) hba
       have ⟨hra', hba', hwa', hN'⟩ := hyd4 hra hba hwa hN
       clear hN hwa hba hra
       go_wp2
       go_roundw
       case rel => exact ⟨i + 1, true, by omega, by go_num, rfl, ⟨_, _, _, hN'.out, by rw [hstep'.out]; rfl, ⟨xb1, xb2⟩, ⟨xb3, xb4⟩, by simp; omega⟩⟩
       case measure => simp [intOf]; omega
      | false =>
       have hJa := hJr'.out
       have hsza := hJa.size
       obtain ⟨Wa, hWa, hbna, kna⟩ := newb wR (.cells #[.int .i64 x1, .int .i64 x2] 120)
       obtain ⟨na0, na1⟩ := pc2 kna
       have hKa := hJa.later hbna
       have hoa := hKa.own
       have hza := hKa.size
       have ⟨hJa', hbna', kna', hKa', hoa'⟩ := hyd5 hJa hbna kna hKa hoa
       clear hoa hKa kna hbna hJa
       go_wp2_with (first | (at_builtin; go_must (refine wpList_appS _ rfl _ _ 117 rfl (w.heap.size + 1) 120 Tryz.underlying117 rangeInfo (.slice AO out.length cO) (out) rfl hoa'.out wR.heap.size (x1, x2) rfl na0 na1 (by omega) hza ?_)))
       intro va Va hra hba hwa
       obtain ⟨AOa, cOa, rfl⟩ := slice_formR hra
       have hN := hKa'.out.push (y := (x1, x2)) hra (by simp) (by simp) hba
       obtain ⟨bA, offA, cA, heq, -, hA0, hA1⟩ := SpnL.cells (hv'.out.le hN.le) hlt2
       injection heq with e1 e2 e3
       injection e1 with e1
       injection e1 with e1 e4
       subst e1 e3 e4
       clear e2 hr0 hr1 xr0 xr1
       rw [hs'.out] at hA0 hA1
       dsimp only at hA0 hA1
       have ⟨hra', hba', hwa', hN'⟩ := hyd4 hra hba hwa hN
       clear hN hwa hba hra
       have hJb := hN'.out
       have hszb := hJb.size
       obtain ⟨Wb, hWb, hbnb, knb⟩ := newb Va (.cells #[.int .i64 s1, .int .i64 s2] 120)
       obtain ⟨nb0, nb1⟩ := pc2 knb
       have hKb := hJb.later hbnb
       have hob := hKb.own
       have hzb := hKb.size
       have ⟨hJb', hbnb', knb', hKb', hob'⟩ := hyd5 hJb hbnb knb hKb hob
       clear hob hKb knb hbnb hJb
       go_wp2_with (first | (at_builtin; go_must (refine wpList_appS _ rfl _ _ 117 rfl (w.heap.size + 1) 120 Tryz.underlying117 rangeInfo (.slice AOa (out.length + 1) cOa) (out ++ [(x1, x2)]) rfl hob'.out Va.heap.size (s1, s2) rfl nb0 nb1 (by simp; omega) hzb ?_)))
       intro vb Vb hrb hbb hwb
       obtain ⟨AOb, cOb, rfl⟩ := slice_formR hrb
       have hM := hKb'.out.push (y := (s1, s2)) hrb (by simp) (by simp) hbb
       have ⟨hrb', hbb', hwb', hM'⟩ := hyd4 hrb hbb hwb hM
       clear hM hwb hbb hrb
       go_wp2
       go_roundw
       case rel => exact ⟨i + 1, true, by omega, by go_num, rfl, ⟨_, _, _, hM'.out, by rw [hstep'.out]; rfl, ⟨xb1, xb2⟩, ⟨xb3, xb4⟩, by simp; omega⟩⟩
       case measure => simp [intOf]; omega
     ·rw [if_neg t2] at hstep
      have hb1 : min x1 s1 = if s1 < x1 then s1 else x1 := by omega
      have hb2 : max x2 s2 = if x2 < s2 then s2 else x2 := by omega
      rw [hb1, hb2] at hstep
      clear hb1 hb2
      obtain ⟨y1, hy1⟩ : ∃ y, (if s1 < x1 then s1 else x1) = y := ⟨_, rfl⟩
      obtain ⟨y2, hy2⟩ : ∃ y, (if x2 < s2 then s2 else x2) = y := ⟨_, rfl⟩
      rw [hy1, hy2] at hstep
      have hyb : (-2000000000000 ≤ y1 ∧ y1 ≤ 2000000000000) ∧ (-2000000000000 ≤ y2 ∧ y2 ≤ 2000000000000) := by rw [← hy1, ← hy2]; constructor <;> split <;> omega
      have hyb' := hyd1 hyb
      clear hyb
      have ⟨hI', hJ', hgo', hvw', hstep', hs'⟩ := hyd6 hI hJ hgo hvw hstep hs
      clear hs hstep hvw hgo hJ hI
      go_wp2
      go_quiet (fail)
      have hJq := hJ'.out.later (below_drewN' (Below.refl _ _) nq)
      have hvq := hvw'.out.drew nq
      obtain ⟨bq, offq, cq, heq, hblq, hq0, hq1⟩ := SpnL.cells hvq hlt2
      injection heq with e1 e2 e3
      injection e1 with e1
      injection e1 with e1 e4
      subst e1 e3 e4
      clear e2
      rw [hs'.out] at hq0 hq1
      dsimp only at hq0 hq1
      obtain ⟨xq0, xq1⟩ := pc2 hJq.kx
      clear g0 g1 x0c x1c
      generalize hwq : wr.drewN nq = wq at hJq hvq hq0 hq1 hblq xq0 xq1 ⊢
      clear hwq
      have ⟨hJq', hvq'⟩ := hyd2 hJq hvq
      clear hvq hJq
      go_wp2
      go_quiet (fail)
      have hJr := hJq'.out.later (below_drewN' (Below.refl _ _) nq)
      have hvr := hvq'.out.drew nq
      obtain ⟨br, offr, cr, heq, hblr, hr0, hr1⟩ := SpnL.cells hvr hlt2
      injection heq with e1 e2 e3
      injection e1 with e1
      injection e1 with e1 e4
      subst e1 e3 e4
      clear e2
      rw [hs'.out] at hr0 hr1
      dsimp only at hr0 hr1
      obtain ⟨xr0, xr1⟩ := pc2 hJr.kx
      clear hq0 hq1 xq0 xq1
      generalize hwr : wq.drewN nq = wR at hJr hvr hr0 hr1 hblr xr0 xr1 ⊢
      clear hwr
      have n1 : ¬ w.heap.size = b := by omega
      have fr0 := pfrz hJr.kx 0
      have fr1 := pfrz hJr.kx 1
      have ⟨hJr', hvr'⟩ := hyd2 hJr hvr
      clear hvr hJr
      go_wp2
      go_still_tail 9, (by kernel_rfl)
      change wpList _ _ _ _ _ wR.drew
      have hJs : JoX w (.slice AO out.length cO) x1 x2 out wR.drew := hJr'.out.later (below_drewN' (Below.refl _ _) 1)
      clear hr0 hr1 xr0 xr1 fr0 fr1
      generalize hws : wR.drew = wS at hJs ⊢
      clear hws
      obtain ⟨xs0, xs1⟩ := pc2 hJs.kx
      have fs0 := pfrz hJs.kx 0
      have hJt := hJs.put0 y1
      obtain ⟨wT, hwT⟩ : ∃ V, wS.setCell ⟨w.heap.size, 0, none⟩ (.int .i64 y1) = V := ⟨_, rfl⟩
      rw [hwT] at hJt
      obtain ⟨bT, offT, cT, heq, -, ht0, ht1⟩ := SpnL.cells (hv'.out.le hJt.le) hlt2
      injection heq with e1 e2 e3
      injection e1 with e1
      injection e1 with e1 e4
      subst e1 e3 e4
      clear e2
      rw [hs'.out] at ht0 ht1
      dsimp only at ht0 ht1
      obtain ⟨xt0, xt1⟩ := pc2 hJt.kx
      have ft1 := pfrz hJt.kx 1
      have ⟨hJs', hJt'⟩ := hyd2 hJs hJt
      clear hJt hJs
      go_wp2
      go_still_tail 9, (by kernel_rfl)
      change wpList _ _ _ _ _ wT.drew
      have hJu : JoX w (.slice AO out.length cO) y1 x2 out wT.drew := hJt'.out.later (below_drewN' (Below.refl _ _) 1)
      clear ht0 ht1 xt0 xt1 ft1 hwT
      generalize hwu : wT.drew = wU at hJu ⊢
      clear hwu
      have fu1 := pfrz hJu.kx 1
      obtain ⟨xu0, xu1⟩ := pc2 hJu.kx
      have hJv := hJu.put1 y2
      have ⟨hJu', hJv'⟩ := hyd2 hJu hJv
      clear hJv hJu
      go_wp2
      go_roundw
      case rel => exact ⟨i + 1, done, by omega, by go_num, rfl, ⟨_, _, _, hJv'.out, hstep'.out.symm, hyb'.out.1, hyb'.out.2, by omega⟩⟩
      case measure => simp [intOf]; omega
   ·obtain rfl : i = l.length := by omega
    rw [List.drop_length] at hgo
    obtain ⟨x0c, x1c⟩ := pc2 hJ.kx
    have hleE := hJ.le
    cases done with
    | true =>
     have hfin : joinedL l (a0, a1) = out := by rw [hres'.out, ← hgo]; rfl
     have hsv := SV.of_own (k := 2) (enc := spnEnc) (fun _ => rfl) hJ.own
     have ⟨hI', hJ', hgo', hleE', hfin', hsv'⟩ := hyd6 hI hJ hgo hleE hfin hsv
     clear hsv hfin hleE hgo hJ hI
     go_wp2
     go_ret
     exact ⟨_, rfl, hleE'.out, by rw [hfin'.out]; exact hsv'.out⟩
    | false =>
     have hfin : joinedL l (a0, a1) = out ++ [(x1, x2)] := by rw [hres'.out, ← hgo]; rfl
     have ⟨hI', hgo', hleE', hfin', hJ'⟩ := hyd5 hI hgo hleE hfin hJ
     clear hJ hfin hleE hgo hI
     have hJa := hJ'.out
     have hsza := hJa.size
     obtain ⟨Wa, hWa, hbna, kna⟩ := newb wr (.cells #[.int .i64 x1, .int .i64 x2] 120)
     obtain ⟨na0, na1⟩ := pc2 kna
     have hKa := hJa.later hbna
     have hoa := hKa.own
     have hza := hKa.size
     have ⟨hJa', hbna', kna', hKa', hoa'⟩ := hyd5 hJa hbna kna hKa hoa
     clear hoa hKa kna hbna hJa
     go_wp2_with (first | (at_builtin; go_must (refine wpList_appS _ rfl _ _ 117 rfl (w.heap.size + 1) 120 Tryz.underlying117 rangeInfo (.slice AO out.length cO) (out) rfl hoa'.out wr.heap.size (x1, x2) rfl na0 na1 (by omega) hza ?_)))
     intro va Va hra hba hwa
     obtain ⟨AOa, cOa, rfl⟩ := slice_formR hra
     have hN := hKa'.out.push (y := (x1, x2)) hra (by simp) (by simp) hba
     have hsv := SV.of_own (k := 2) (enc := spnEnc) (fun _ => rfl) hN.own
     obtain ⟨A9, c9, hv9⟩ : ∃ A c, Value.slice AOa (out.length + 1) cOa = .slice A (out.length + 1) c := ⟨_, _, rfl⟩
     have ⟨hra', hba', hwa', hN', hsv'⟩ := hyd5 hra hba hwa hN hsv
     clear hsv hN hwa hba hra
     go_wp2
     go_ret
     exact ⟨_, rfl, hN'.out.le, by rw [hfin'.out]; exact hsv'.out⟩
end Go.Proofs.YtjdgkmcmgagkgaaGreat
