/- read.union, read.found, read.some as a whole. The reference's some. -/
import Derived.Test.YtphdalgaemefoaaGreatRdFnd
import Derived.Test.YtphdalgaemefoaaGreatRdSort
import Derived.Test.YtphdalgaemefoaaGreatRdFittR
import Derived.Test.YtphdalgaemefoaaGreatMonoR
namespace Go.Proofs.YtphdalgaemefoaaGreat
set_option maxRecDepth 100000
set_option maxHeartbeats 1000000
open Go.RowKit Go.Shelf
set_option linter.unusedVariables false
set_option linter.unusedSimpArgs false
attribute [local go_sem] Oper.semAt_some
theorem wpList_appT {α : Type} {enc : α → List Value} {k bytes : Nat} {z : Value} {P : Program} (w : World) {ops : Array Oper} {rest : List Oper} {o : Oper} {a : Act} {Q : Exit → Act → World → Prop} (hgd : o.guard = none) (s x : Operand) (t : TypeId)
  (hk : ∀ x, (enc x).length = k) (h1c : ∀ x, ∀ u ∈ enc x, u.oneCell' = true) (hk0 : 0 < k) (hzs : z.cells.size = k) (hb8 : bytes ≤ 100)
  (ho : o.op = .call { callee := .builtin .append, args := #[s, x], argTypes := #[t, t] })
  (base : Nat) (e : TypeId) (ht : P.underlying t = some (.slice e)) (hinfo : (P.info? e).map (fun i => (i.zero, i.size, i.bytes)) = some (some z, k, bytes))
  (v : Value) (L : List α) (hs : a.eval s = v) (hown : w.ownsRow base e k v L.length (L.flatMap enc))
  (B : Nat) (y : α) (hx : a.eval x = .slice (some ⟨B, 0, none⟩) 1 1) (hc : ∀ i u, (enc y)[i]? = some u → w.cell? ⟨B, i, none⟩ = some u) (hlen : L.length ≤ 1000000) (hbase : base ≤ w.heap.size)
  (h : ∀ v' w', w'.ownsRow base e k v' (L ++ [y]).length ((L ++ [y]).flatMap enc) → w.grownBy w' v.ownBlock → (∀ j, v'.ownBlock = some j → v.ownBlock = some j ∨ w.heap.size ≤ j) → wpList P ops Q rest (a.put o.dst v') w') : wpList P ops Q (o :: rest) a w := by
 obtain ⟨mi, hmi, hz0, hz1, hzb⟩ := info_parts hinfo
 refine wpList_append_ownB w hgd s x t ho base e mi z k bytes ht hmi hz0 hz1 hzb hzs hk0 v L.length (L.flatMap enc) hs hown ⟨B, 0, none⟩ 1 1 (enc y) hx (by rw [hk, Nat.one_mul]) (fun j u hu => ?_) (h1c y) (by unfold maxLen; omega) (Nat.le_trans (Nat.mul_le_mul (show L.length + 1 ≤ 1000001 by omega) hb8) (by decide)) hbase ?_
 ·have hadd : (⟨B, 0, none⟩ : Addr).add j = ⟨B, j, none⟩ := by unfold Addr.add; split <;> simp_all
  rw [hadd]
  exact hc j u hu
 ·intro v' w' h1 h2 h3
  refine h v' w' ?_ h2 h3
  rw [List.flatMap_append, List.flatMap_singleton, show (L ++ [y]).length = L.length + 1 by simp]
  exact h1
theorem own_bel {w w' : World} {base e size n : Nat} {v : Value} {xs : List Value} (h : w.ownsRow base e size v n xs) (hg : w.grownBy w' v.ownBlock) (hb : base ≤ w.heap.size) : Below base w w' := Below.grown (Below.refl _ _) hg hb (fun k e => (h.lt k e).1)
theorem pf_union (v : Value) (L : List Spn) (W : World) (hv : SpnL W v L) (h0 : 0 < L.length) (hl : L.length ≤ 10000) (hb : SpB L) : Calls Tryz.prog 67 #[v] W fun e w' => ∃ v', e = .returned v' ∧ Below W.heap.size W w' ∧ SpnL w' v' (normL L) := pf_union_of pf_sortSp v L W hv h0 hl hb
theorem pf_rd_found (v : Value) (cs : Array Value) (w : World) (hv : v = .agg cs) (hs : cs.size = 6) :
  Calls Tryz.prog 20 #[v] w fun e w' => e = .returned (.func (.func 45) #[] #[.pointer (some ⟨w.heap.size, 0, none⟩)]) ∧ w.alloc (.cells cs 25) = w' := by
 have hmf : ∀ (fn : Fn) (first cap : Array Value) (w : World), (Instr.makeFunc fn first cap).run Tryz.prog w = .ok (.func fn first cap) w := fun _ _ _ _ => rfl
 obtain ⟨l, rfl⟩ : ∃ l : List Value, cs = l.toArray := ⟨cs.toList, by simp⟩
 obtain ⟨a0, a1, a2, a3, a4, a5, rfl⟩ : ∃ a0 a1 a2 a3 a4 a5, l = [a0, a1, a2, a3, a4, a5] := by
  match l, hs with
  | [a0, a1, a2, a3, a4, a5], _ => exact ⟨_, _, _, _, _, _, rfl⟩
 subst hv
 go_enter Tryz.func20, Tryz.ntmps20
 go_wp2
 go_ret
 exact ⟨rfl, rfl⟩
theorem rdgInfo : (Tryz.prog.info? 54).map (fun i => (i.zero, i.size, i.bytes)) = some (some (.agg #[.int .i64 0, .int .i64 0, .int .i64 0, .int .i64 0]), 4, 32) := by kernel_rfl
def FwI (W2 : World) (rds : List Rd) (l : List Int) (k : Nat) (vo : Value) (W : World) : Prop := Below W2.heap.size W2 W ∧ W.ownsRow W2.heap.size 54 4 vo k ((subR rds (l.take k)).flatMap rdEnc)
theorem subR_take {rds : List Rd} {l : List Int} {k : Nat} (h : k < l.length) (h2 : l[k].toNat < rds.length) : subR rds (l.take (k + 1)) = subR rds (l.take k) ++ [rds[l[k].toNat]] := by
 unfold subR
 rw [List.take_succ_eq_append_getElem h, List.map_append, List.map_singleton, List.getD_eq_getElem?_getD, List.getElem?_eq_getElem h2]
 rfl
theorem subR_length (rds : List Rd) (l : List Int) : (subR rds l).length = l.length := by unfold subR; simp
theorem heap_set {W : World} {B : Nat} {cs : Array Value} {t : TypeId} (h : W.heap[B]? = some (.cells cs t)) (i : Nat) (v : Value) : (W.setCell ⟨B, i, none⟩ v).heap[B]? = some (.cells (cs.setIfInBounds i v) t) := by
 simp only [World.setCell, Array.getElem?_modify, h]
 simp
theorem ownFrom_cells {β : Type} (B X : Nat) (cs : Array Value) (t : TypeId) : OwnFrom B (fun (_ : β) W => W.heap[X]? = some (.cells cs t)) := fun s W W' row hs hg hr => by
 refine (hg.block X (gsl hs) (fun e => ?_)).trans hs
 obtain ⟨-, o, ho, hc⟩ := hr X e.symm
 rw [show W.heap[X]? = _ from hs] at ho
 cases ho
 cases hc
theorem pf_rd_some (v vl : Value) (p : Pic) (l : List Int) (w : World) (hp : IsPic w v p) (hok : PicM p) (hst : p.steps ≤ 24) (hvl : Ints w vl l) (hl : ∀ i ∈ l, 0 ≤ i ∧ i < (p.rds.length : Int)) (h60 : l.length ≤ 60) :
  Calls Tryz.prog 35 #[v, vl] w fun e w' => e = .returned (.bool (someP p l)) ∧ Below w.heap.size w w' := by
 have hp9 := hp
 obtain ⟨vh, vr, rfl, hh, hr⟩ := hp
 obtain ⟨HA, hc, rfl, hhl⟩ := hh.slice
 obtain ⟨RA, rc, rfl, hrl⟩ := hr.slice
 unfold maxLen at hhl hrl
 obtain ⟨LA, lc, rfl, hlc, hlm, -, hlr⟩ := id hvl
 unfold maxLen at hlm
 clear hlr
 obtain ⟨W1, hW1, hb1, k1⟩ := newb w (.cells #[.slice HA p.hs.length hc, .int .i64 p.tl, .int .i64 p.th, .int .i64 p.al, .int .i64 p.ah, .slice RA p.rds.length rc] 25)
 obtain ⟨W2, hW2, hb2, k2⟩ := newb W1 (.cells #[.bool false] 4)
 have k12 := blk hb2 k1
 have hb12 := bel_set hb1 hb2
 have hI0 : FwI W2 p.rds l 0 (.slice none 0 0) W2 := ⟨Below.refl _ _, World.ownsRow_nil _ _ _ _⟩
 have hwz : W1.heap.size = w.heap.size + 1 := by rw [← hW1]; simp
 have ⟨hp9', hok', hh', hr', hvl', hl', hb1', k1'⟩ := hyd8 hp9 hok hh hr hvl hl hb1 k1
 have ⟨hb2', k2', k12', hb12', hI0'⟩ := hyd5 hb2 k2 k12 hb12 hI0
 clear hI0 hb12 k12 k2 hb2 k1 hb1 hl hvl hr hh hok hp9
 refine (callsIn_wide (n := 5)).1 ?_
 refine callsIn_of_wp_marks Tryz.func35 rfl trivial ?_ rfl
 simp only [Tryz.ntmps35, List.size_toArray, List.length_cons, List.length_nil, Nat.reduceAdd, Nat.reduceSub, Array.replicate_succ, Array.replicate_zero, List.push_toArray, List.append_toArray, List.nil_append, List.cons_append]
 refine wpIn_wide.2 ?_
 go_wp2_with (fail)
 go_loopw [10, 5] (fun kx vo wr => ∃ k : Nat, k ≤ l.length ∧ kx = .int .i64 (k : Int) ∧ Hid (FwI W2 p.rds l k vo wr)) (fun kx _ _ => l.length - (intOf kx).toNat)
 case atStart => exact ⟨0, Nat.zero_le _, rfl, hI0'⟩
 case round =>
  obtain ⟨k, hk, rfl, hI⟩ := hrel
  obtain ⟨hbw, ho⟩ := hI.out
  obtain ⟨AO, cO, rfl⟩ := slice_formR ho
  have hww := bel_set hb12'.out hbw
  have kBr := blk hbw k12'.out
  by_cases hlt : k < l.length
  ·obtain ⟨b, off, c2, heq, hbl, -, -, hcell⟩ := Ints.cells (hvl'.out.below hww) (by omega)
   injection heq with e1 e2 e3
   subst e1 e3
   clear e2
   have hci := hcell k hlt
   have hil := hl'.out _ (List.getElem_mem hlt)
   obtain ⟨i, hi⟩ : ∃ i : Nat, l[k] = (i : Int) := ⟨l[k].toNat, by omega⟩
   have htk := subR_take (rds := p.rds) hlt (by omega)
   rw [hi] at hci hil
   simp only [hi, Int.toNat_natCast] at htk
   have hir : i < p.rds.length := by omega
   obtain ⟨b1, o1, z1, heq, hb1l, g0, g1, g2, g3⟩ := RdsL.cells (hr'.out.le hww) hir
   injection heq with e1 e2 e3
   subst e1 e3
   clear e2
   obtain ⟨⟨r1, r2, r3, r4⟩, hrr⟩ : ∃ r, p.rds[i] = r := ⟨_, rfl⟩
   rw [hrr] at g0 g1 g2 g3 htk
   dsimp only at g0 g1 g2 g3
   obtain ⟨c0, c1, c2, c3, c4, c5⟩ := pc6 kBr
   obtain ⟨Wa, hWa, hba, ka⟩ := newb wr (.cells #[.int .i64 r1, .int .i64 r2, .int .i64 r3, .int .i64 r4] 54)
   obtain ⟨na0, na1, na2, na3⟩ := pc4 ka
   have hnew : ∀ (i : Nat) (u : Value), (rdEnc ⟨r1, r2, r3, r4⟩)[i]? = some u → Wa.cell? ⟨wr.heap.size, i, none⟩ = some u := fun i u hu => by
    have hi4 : i < 4 := (List.getElem?_eq_some_iff.1 hu).1
    match i, hi4 with
    | 0, _ => rw [na0]; simpa [rdEnc] using hu
    | 1, _ => rw [na1]; simpa [rdEnc] using hu
    | 2, _ => rw [na2]; simpa [rdEnc] using hu
    | 3, _ => rw [na3]; simpa [rdEnc] using hu
   have hoa := own_below ho hba
   have hbwa := bel_set hbw hba
   have hza := hbwa.size
   have hlk : (subR p.rds (l.take k)).length = k := by rw [subR_length, List.length_take]; omega
   have j1 : (k : Int) < (l.length : Int) := by omega
   have j2 : (0 : Int) ≤ (k : Int) := by omega
   have j3 : (i : Int) < (p.rds.length : Int) := by omega
   have j4 : (0 : Int) ≤ (i : Int) := by omega
   have ⟨hI', hbw', ho', hww', kBr', hcell', htk', hrr'⟩ := hyd8 hI hbw ho hww kBr hcell htk hrr
   have ⟨hba', ka', hnew', hoa', hbwa', hlk', hi'⟩ := hyd7 hba ka hnew hoa hbwa hlk hi
   clear hi hlk hbwa hoa hnew ka hba hrr htk hcell kBr hww ho hbw hI
   clear na0 na1 na2 na3
   go_wp2_with (first | (at_builtin; go_must (refine wpList_appT (enc := rdEnc) (k := 4) (bytes := 32) _ rfl _ _ 23 (fun _ => rfl) (fun x u hu => by simp [rdEnc] at hu; rcases hu with rfl | rfl | rfl | rfl <;> rfl) (by decide) rfl (by decide) rfl W2.heap.size 54 Tryz.underlying23 rdgInfo (.slice AO k cO) (subR p.rds (l.take k)) rfl (by rw [hlk'.out]; exact hoa'.out) wr.heap.size ⟨r1, r2, r3, r4⟩ rfl hnew'.out (by rw [hlk'.out]; omega) hza ?_)))
   intro v7 w7 q1 q2 q3
   have q1b : w7.ownsRow W2.heap.size 54 4 v7 (k + 1) ((subR p.rds (l.take (k + 1))).flatMap rdEnc) := by rw [hlk'.out] at q1; rw [htk'.out, List.flatMap_append, List.flatMap_singleton]; exact q1
   obtain ⟨A7, c7, rfl⟩ := slice_formR q1b
   have hN : FwI W2 p.rds l (k + 1) (.slice A7 (k + 1) c7) w7 := ⟨hbwa'.out.trans (own_bel hoa'.out q2 hza), q1b⟩
   have ⟨q1', q1b', q2', q3', hN'⟩ := hyd5 q1 q1b q2 q3 hN
   clear hN q3 q2 q1b q1
   go_wp2
   go_roundw
   case rel => exact ⟨k + 1, by omega, by go_num, hN'⟩
   case measure => simp [intOf]; omega
  ·obtain rfl : k = l.length := by omega
   rw [List.take_length] at ho
   obtain ⟨c0, c1, c2, c3, c4, c5⟩ := pc6 kBr
   have f5 := pfrz kBr 5
   have hsr := subR_length p.rds l
   have ksr := blk hbw k2'.out
   rw [hwz] at ksr
   obtain ⟨W4, hW4, hb4, k4, kr4, ho4⟩ : ∃ V, wr.setCell ⟨w.heap.size, 5, none⟩ (.slice AO l.length cO) = V ∧ Below w.heap.size w V ∧ V.heap[w.heap.size]? = some (.cells #[.slice HA p.hs.length hc, .int .i64 p.tl, .int .i64 p.th, .int .i64 p.al, .int .i64 p.ah, .slice AO l.length cO] 25) ∧ V.heap[w.heap.size + 1]? = some (.cells #[.bool false] 4) ∧ V.ownsRow W2.heap.size 54 4 (.slice AO l.length cO) l.length ((subR p.rds l).flatMap rdEnc) :=
    ⟨_, rfl, Below.setCell hww (p := ⟨w.heap.size, 5, none⟩) (Nat.le_refl _) _, heap_set kBr 5 _, (Below.heap_setCell _ ⟨w.heap.size, 5, none⟩ _ (w.heap.size + 1) (by show w.heap.size + 1 ≠ w.heap.size; omega)).trans ksr, own_apart ho (by have := hb2'.out.size; omega) _⟩
   have hpic4 : IsPic W4 (.agg #[.slice HA p.hs.length hc, .int .i64 p.tl, .int .i64 p.th, .int .i64 p.al, .int .i64 p.ah, .slice AO l.length cO]) (p.with (subR p.rds l)) := ⟨_, _, rfl, hh'.out.le hb4, SV.of_own (base := W2.heap.size) (e := 54) (enc := rdEnc) (fun _ => rfl) (by show W4.ownsRow _ _ _ _ (subR p.rds l).length _; rw [hsr]; exact ho4)⟩
   have hok4 := hok'.out.sub hl'.out h60
   obtain ⟨W5, hW5, hb5, k5⟩ := newb W4 (.cells #[.slice HA p.hs.length hc, .int .i64 p.tl, .int .i64 p.th, .int .i64 p.al, .int .i64 p.ah, .slice AO l.length cO] 25)
   have hfy := found1_yields pf_union _ _ _ W4 W5 W4.heap.size W4.heap.size hpic4 hok4 hst (Nat.le_refl _) hb5.size hb5 rfl k5
   have hb45 := bel_set hb4 hb5
   have kr5 := blk hb5 kr4
   obtain ⟨d0, d1, d2, d3, d4, d5⟩ := pc6 k4
   have hz5 := hb5.size
   have hwz4 := hb4.size
   have ⟨hI', hbw', ho', hww', kBr', ksr', hb4', k4'⟩ := hyd8 hI hbw ho hww kBr ksr hb4 k4
   have ⟨kr4', ho4', hpic4', hok4', hb5', k5', hfy', hb45'⟩ := hyd8 kr4 ho4 hpic4 hok4 hb5 k5 hfy hb45
   have kr5' := hyd1 kr5
   clear kr5 hb45 hfy k5 hb5 hok4 hpic4 ho4 kr4 k4 hb4 ksr kBr hww ho hbw hI
   go_wp2_with (first | (go_at_call 20; ((with_reducible refine (pf_rd_found _ _ _ rfl rfl).mono ?_); rintro e w' ⟨rfl, rfl⟩)))
   refine (wpIn_wide (n := 5)).1 ?_
   refine wpIn_rangeFunc_ownO rfl (by omega) (gf := 45) (lb := #[.pointer (some ⟨W4.heap.size, 0, none⟩)]) rfl trivial (enters_of Tryz.func45 (by kernel_rfl) rfl)
    hfy'.out KeepT.trans (fun V l o o' hl h hc _ => KeepT.put o' (by omega) h hc) (Below.refl _ _) (fun _ => rfl)
    (fun pre W => pre = [] ∧ Below w.heap.size w W ∧ W.heap[w.heap.size + 1]? = some (.cells #[.bool false] 4))
    (fun c pre W => c = .ret ∧ pre ≠ [] ∧ Below w.heap.size w W ∧ W.heap[w.heap.size + 1]? = some (.cells #[.bool true] 4))
    (fun s A B row hs hg hr => ⟨hs.1, ownFrom_below' (w := w) (by omega) (Nat.le_refl _) s A B row hs.2.1 hg hr, ownFrom_cells W5.heap.size _ _ _ s A B row hs.2.2 hg hr⟩)
    (fun c s A B row hs hg hr => ⟨hs.1, hs.2.1, ownFrom_below' (w := w) (by omega) (Nat.le_refl _) s A B row hs.2.2.1 hg hr, ownFrom_cells W5.heap.size _ _ _ s A B row hs.2.2.2 hg hr⟩)
    ⟨rfl, hb45'.out, kr5'.out⟩ (fun _ x a' _ => ∃ u : Nat → Value, a' = { tmps := #[(u 0), (u 1), (u 2), (u 3), .pointer (some ⟨w.heap.size + 1, 0, none⟩), (u 5), (u 6), (u 7), (u 8), (u 9), (u 10), (u 11), (u 12), (u 13), (u 14), (u 15), (u 16), (u 17), (u 18), (u 19), (u 20), (u 21), (u 22), (u 23), (u 24), (u 25), (u 26), (u 27)], defers := [] }) (fun pre x a' V o o' h _ => h) ?assign ?body ?done ?stop
   case assign =>
    intro la pre x V K hI hG hK
    dsimp only [fnArg]
    gi_wp2
    refine hK _ V (KeepsFrom.refl _ _) (KeepT.refl _ _) hI ?_
    obtain ⟨u, hu⟩ := frame_mkS (fun u : Nat → Value => #[(u 0), (u 1), (u 2), (u 3), .pointer (some ⟨w.heap.size + 1, 0, none⟩), (u 5), (u 6), (u 7), (u 8), (u 9), (u 10), (u 11), (u 12), (u 13), (u 14), (u 15), (u 16), (u 17), (u 18), (u 19), (u 20), (u 21), (u 22), (u 23), (u 24), (u 25), (u 26), (u 27)]) _ (by kernel_rfl)
    exact ⟨u, congrArg (fun t => ({ tmps := t, defers := [] } : Act)) hu⟩
   case body =>
    rintro la pre x a' V ⟨rfl, hbV, kV⟩ ⟨u, rfl⟩ hlen
    have kc := cellOne kV
    have kf := pfrz kV 0
    gi_wp2
    exact ⟨(KeepsOthers.setCell _ _ _).from _, rfl, by simp, Below.setCell hbV (p := ⟨w.heap.size + 1, 0, none⟩) (Nat.le_succ _) _, heap_set kV 0 _⟩
   case done =>
    rintro D xs V hD hS ⟨rfl, hbV, kV⟩ hK
    have kc := cellOne kV
    have kf := pfrz kV 0
    have hno : someP p l = false := by
     unfold someP
     rw [Bool.eq_false_iff]
     intro h
     exact anyB_iff.1 h hS.symm
    have hb9 := Below.setCell hbV (p := ⟨w.heap.size + 1, 0, none⟩) (Nat.le_succ _) (.bool false)
    have k9 := heap_set kV 0 (.bool false)
    have hD9 := (KeepsOthers.setCell V ⟨w.heap.size + 1, 0, none⟩ (.bool false)).same D _ hK rfl
    have ⟨hbV', kV', hno', hb9', k9', hD9', hK'⟩ := hyd7 hbV kV hno hb9 k9 hD9 hK
    clear hK hD9 k9 hb9 hno kV hbV
    go_wp2
    refine leaves_marks w.heap.size [{ target := .collected D, args := #[] }] _ ⟨⟨D, rfl, by omega, hD9'.out, by simp⟩, trivial⟩ fun w9 hb hkeep => ?_
    have kc9 := cellOne (hkeep _ _ k9'.out rfl)
    exact ⟨.bool false, by simp [results, Tryz.results35, go_sem, kc9], by rw [hno'.out], hb9'.out.trans hb⟩
   case stop =>
    rintro D c pre V hD hS ⟨rfl, hne, hbV, kV⟩ hK
    have hyes : someP p l = true := by
     unfold someP
     rw [anyB_iff]
     intro h
     have := hS.1
     rw [h] at this
     exact hne (List.prefix_nil.1 this)
    refine wpIn_wide.2 ?_
    have ⟨hbV', kV', hyes'⟩ := hyd3 hbV kV hyes
    clear hyes kV hbV
    go_wp2
    refine leaves_marks w.heap.size [{ target := .collected D, args := #[] }] _ ⟨⟨D, rfl, by omega, hK, by simp⟩, trivial⟩ fun w9 hb hkeep => ?_
    have kc9 := cellOne (hkeep _ _ kV'.out rfl)
    exact ⟨.bool true, by simp [results, Tryz.results35, go_sem, kc9], by rw [hyes'.out], hbV'.out.trans hb⟩
end Go.Proofs.YtphdalgaemefoaaGreat
namespace Go.Proofs.YtphdalgaemefoaaGreat
set_option maxRecDepth 100000
set_option maxHeartbeats 1000000
open Go.RowKit Go.Shelf
set_option linter.unusedVariables false
set_option linter.unusedSimpArgs false
theorem mem_upTo {a b x : Int} : x ∈ upTo a b ↔ a ≤ x ∧ x ≤ b := by
 unfold upTo
 rw [List.mem_map]
 constructor
 ·rintro ⟨k, hk, rfl⟩
  have := List.mem_range.1 hk
  omega
 ·rintro ⟨h1, h2⟩
  exact ⟨(x - a).toNat, List.mem_range.2 (by omega), by omega⟩
theorem anyB_yes {p : Pic} {h : Nat} {t a : Int} (hh : h < p.hs.length) (ht : p.tl ≤ t ∧ t ≤ p.th) (ha : p.al ≤ a ∧ a ≤ p.ah) (hf : fitL p.rds (p.lift h) t a ≠ []) : anyB p = true := by
 unfold anyB
 simp only [List.any_eq_true, List.mem_range, mem_upTo]
 exact ⟨h, hh, t, ht, a, ha, by simpa using hf⟩
def NoH (p : Pic) (k : Nat) : Prop := ∀ h, h < k → ∀ t, p.tl ≤ t → t ≤ p.th → ∀ a, p.al ≤ a → a ≤ p.ah → fitL p.rds (p.lift h) t a = []
def NoT (p : Pic) (k j : Nat) : Prop := NoH p k ∧ ∀ t, p.tl ≤ t → t < p.tl + (j : Int) → ∀ a, p.al ≤ a → a ≤ p.ah → fitL p.rds (p.lift k) t a = []
def NoA (p : Pic) (k j i : Nat) : Prop := NoT p k j ∧ ∀ a, p.al ≤ a → a < p.al + (i : Int) → fitL p.rds (p.lift k) (p.tl + (j : Int)) a = []
theorem anyB_no {p : Pic} (h : NoH p p.hs.length) : anyB p = false := by
 rw [Bool.eq_false_iff]
 intro h9
 unfold anyB at h9
 simp only [List.any_eq_true, List.mem_range, mem_upTo] at h9
 obtain ⟨k, hk, t, ht, a, ha, hf⟩ := h9
 rw [h k hk t ht.1 ht.2 a ha.1 ha.2] at hf
 simp at hf
theorem NoT.start {p : Pic} {k : Nat} (h : NoH p k) : NoT p k 0 := ⟨h, fun t h1 h2 => by omega⟩
theorem NoA.start {p : Pic} {k j : Nat} (h : NoT p k j) : NoA p k j 0 := ⟨h, fun a h1 h2 => by omega⟩
theorem NoA.step {p : Pic} {k j i : Nat} (h : NoA p k j i) (hf : fitL p.rds (p.lift k) (p.tl + (j : Int)) (p.al + (i : Int)) = []) : NoA p k j (i + 1) := ⟨h.1, fun a h1 h2 => by
 by_cases e : a = p.al + (i : Int)
 ·rw [e]; exact hf
 ·exact h.2 a h1 (by omega)⟩
theorem NoA.fin {p : Pic} {k j i : Nat} (h : NoA p k j i) (hi : p.al + (i : Int) = p.ah + 1) : NoT p k (j + 1) := ⟨h.1.1, fun t h1 h2 a h3 h4 => by
 by_cases e : t = p.tl + (j : Int)
 ·rw [e]; exact h.2 a h3 (by omega)
 ·exact h.1.2 t h1 (by omega) a h3 h4⟩
theorem NoT.fin {p : Pic} {k j : Nat} (h : NoT p k j) (hj : p.tl + (j : Int) = p.th + 1) : NoH p (k + 1) := fun x hx t h1 h2 a h3 h4 => by
 by_cases e : x = k
 ·rw [e]; exact h.2 t h1 (by omega) a h3 h4
 ·exact h.1 x (by omega) t h1 h2 a h3 h4
end Go.Proofs.YtphdalgaemefoaaGreat
