/- The reference's Fits. The reference's Fits: the walk. The reference's Simplest. -/
import Derived.Test.YtkblockodaiigaaRdListR
import Derived.Test.YtkblockodaiigaaPatCheck
namespace Go.Proofs.Ytkblockodaiigaa
set_option maxRecDepth 100000
set_option maxHeartbeats 1000000
open Go.RowKit
set_option linter.unusedVariables false
set_option linter.unusedSimpArgs false
def IsSl (u : Value) : Prop := ∃ A n c, u = .slice A n c
theorem Ints.row {W W' : World} {r v : Value} {xs : List Int} {base e size m : Nat} {ys : List Value} (h : Ints W v xs) (ho : W.ownsRow base e size r m ys) (hall : RowAll IsSl W r) (hg : W.grownBy W' r.ownBlock) : Ints W' v xs := by
 obtain ⟨A, c, hv, h1, h2, hN, h3⟩ := h
 refine ⟨A, c, hv, h1, h2, hN, fun h0 => ?_⟩
 obtain ⟨b, off, ha, hlt, hc⟩ := h3 h0
 have hne : some b ≠ r.ownBlock := fun e => by
  rcases ho.2 with ⟨rfl, -⟩ | ⟨g, cap, cur, rfl, hbg, hgb, -⟩
  ·cases e
  ·have hbg2 : b = g := by simpa [Value.ownBlock] using e
   subst hbg2
   have h4 := hc 0 h0
   simp only [World.cell?, hgb] at h4
   have hm : Value.int .i64 xs[0] ∈ cur.toList := by
    have h6 : cur[off + 0]? = some (Value.int .i64 xs[0]) := by simpa using h4
    have h7 : cur.toList[off + 0]? = some (Value.int .i64 xs[0]) := by simpa using h6
    exact List.mem_of_getElem? h7
   obtain ⟨_, _, _, hz⟩ := hall b cur _ rfl hgb _ hm
   cases hz
 exact ⟨b, off, ha, Nat.lt_of_lt_of_le hlt hg.size, fun j hj => (World.cell?_of_block (hg.block b hlt hne)).trans (hc j hj)⟩
def GrI (W : World) (base : Nat) (vo : Value) (L : List (List Int)) : Prop := ∃ vs : List Value, vs.length = L.length ∧ W.ownsRow base 36 1 vo L.length vs ∧ RowAll IsSl W vo ∧ ∀ i (h1 : i < vs.length) (h2 : i < L.length), Ints W vs[i] L[i]
theorem GrI.nil (W : World) (base : Nat) : GrI W base (.slice none 0 0) [] := ⟨[], rfl, World.ownsRow_nil _ _ _ _, RowAll.nil _ _, fun i h => absurd h (Nat.not_lt_zero i)⟩
theorem GrI.le {W W' : World} {base : Nat} {vo : Value} {L : List (List Int)} (h : GrI W base vo L) (hb : Below W.heap.size W W') : GrI W' base vo L := by
 obtain ⟨vs, h1, h2, h3, h4⟩ := h
 exact ⟨vs, h1, own_below h2 hb, h3.same fun g hg => hb.block g (h2.lt g hg).2, fun i a b => (h4 i a b).below hb⟩
theorem GrI.grid {W : World} {base : Nat} {vo : Value} {L : List (List Int)} (h : GrI W base vo L) : GridL W vo L := by
 obtain ⟨vs, h1, h2, h3, h4⟩ := h
 have h0 := h2
 rcases h2.2 with ⟨rfl, hx⟩ | ⟨g, cap, cur, rfl, hbg, hg, hnc, hcm, hcs, htake⟩
 ·have hn : L = [] := List.eq_nil_of_length_eq_zero hx
  subst hn
  exact ⟨none, 0, rfl, Nat.le_refl _, Nat.zero_le _, fun _ => rfl, fun h => absurd h (Nat.lt_irrefl 0)⟩
 ·refine ⟨some ⟨g, 0, none⟩, cap, rfl, hnc, hcm, fun h => (by cases h), fun _ => ⟨g, 0, rfl, (gsl hg), fun j hj => ⟨vs[j]'(by omega), ?_, h4 j (by omega) hj⟩⟩⟩
  rw [Nat.zero_add, h0.cellAt j (by omega)]
  exact List.getElem?_eq_getElem (by omega)
theorem rowInfo : (Try.prog.info? 36).map (fun i => (i.zero, i.size, i.bytes)) = some (some (.slice none 0 0), 1, 24) := by kernel_rfl
theorem wpList_appR (w : World) {ops : Array Oper} {rest : List Oper} {o : Oper} {a : Act} {Q : Exit → Act → World → Prop} (hgd : o.guard = none) (s x : Operand)
  (ho : o.op = .call { callee := .builtin .append, args := #[s, x], argTypes := #[30, 30] })
  (base : Nat) (v : Value) (L : List (List Int)) (hs : a.eval s = v) (hown : GrI w base v L)
  (B : Nat) (A : Option Addr) (c : Nat) (y : List Int) (hx : a.eval x = .slice (some ⟨B, 0, none⟩) 1 1) (hc0 : w.cell? ⟨B, 0, none⟩ = some (.slice A y.length c)) (hy : Ints w (.slice A y.length c) y) (hlen : L.length ≤ 1000000) (hbase : base ≤ w.heap.size)
  (h : ∀ v' w', GrI w' base v' (L ++ [y]) → (∀ n, n ≤ base → Below n w w') → wpList Try.prog ops Q rest (a.put o.dst v') w') : wpList Try.prog ops Q (o :: rest) a w := by
 obtain ⟨mi, hmi, hz0, hz1, hzb⟩ := info_parts rowInfo
 obtain ⟨vs, h1, h2, h3, h4⟩ := hown
 refine wpList_append_ownC IsSl w hgd s x 30 ho base 36 mi _ 1 24 Try.underlying30 hmi hz0 hz1 hzb rfl (by decide) v L.length vs hs h2 ⟨B, 0, none⟩ 1 1 [.slice A y.length c] hx rfl (fun j u hu => ?_) (fun u hu => ?_) (by unfold maxLen; omega) (by omega) hbase (by decide) (fun u hu => ?_) (fun j hj => ?_) h3 ?_
 ·have hj : j < 1 := (List.getElem?_eq_some_iff.1 hu).1
  obtain rfl : j = 0 := by omega
  have hadd : (⟨B, 0, none⟩ : Addr).add 0 = ⟨B, 0, none⟩ := by unfold Addr.add; split <;> simp_all
  rw [hadd, hc0]; simpa using hu
 ·obtain rfl : u = _ := by simpa using hu
  rfl
 ·obtain rfl : u = _ := by simpa using hu
  exact ⟨_, _, _, rfl⟩
 ·obtain rfl : j = 0 := by omega
  exact ⟨none, 0, 0, rfl⟩
 ·intro v' w' g1 g2 g3 g4 g5
  refine h v' w' ⟨vs ++ [.slice A y.length c], by simp [h1], by rw [show (L ++ [y]).length = L.length + 1 by simp]; exact g1, g4, fun i a b => ?_⟩ (fun n hn => Below.grown (Below.refl n w) g2 (by omega) (fun k e => by have := (h2.lt k e).1; omega))
  by_cases hi : i < vs.length
  ·rw [List.getElem_append_left hi, List.getElem_append_left (by omega)]
   exact (h4 i hi (by omega)).row h2 h3 g2
  ·have hi2 : i = vs.length := by simp at a; omega
   subst hi2
   have e1 : (vs ++ [Value.slice A y.length c])[vs.length]'a = .slice A y.length c := by simp
   have e2 : (L ++ [y])[vs.length]'b = y := by rw [List.getElem_append_right (by omega)]; simp [h1]
   rw [e1, e2]
   exact hy.row h2 h3 g2
theorem phases_filter (rds : List Rd) (lift : List Int) (throw adv start cut : Int) : phasesAt rds lift throw adv start cut = ((List.range lift.length).filter fun ph => inB start (startS rds lift throw adv cut ph)).map fun (ph : Nat) => (ph : Int) := rfl
def phasesTo (rds : List Rd) (lift : List Int) (throw adv start cut : Int) (k : Nat) : List Int := ((List.range k).filter fun ph => inB start (startS rds lift throw adv cut ph)).map fun (ph : Nat) => (ph : Int)
theorem phasesTo_succ (rds : List Rd) (lift : List Int) (throw adv start cut : Int) (k : Nat) : phasesTo rds lift throw adv start cut (k + 1) = phasesTo rds lift throw adv start cut k ++ (if inB start (startS rds lift throw adv cut k) then [(k : Int)] else []) := by
 unfold phasesTo
 rw [List.range_succ, List.filter_append, List.map_append]
 congr 1
 by_cases h : inB start (startS rds lift throw adv cut k) = true
 ·simp [h]
 ·simp [h]
theorem phasesTo_length (rds : List Rd) (lift : List Int) (throw adv start cut : Int) (k : Nat) : (phasesTo rds lift throw adv start cut k).length ≤ k := by
 unfold phasesTo
 rw [List.length_map]
 exact Nat.le_trans (List.length_filter_le _ _) (by simp)
def fitsTo (p : Pic) (lift : List Int) (f : Fnd) (start : Int) (k : Nat) : List (List Int) := (List.range k).map fun (c : Nat) => phasesAt p.rds lift f.throw f.adv start (c : Int)
theorem fitsTo_succ (p : Pic) (lift : List Int) (f : Fnd) (start : Int) (k : Nat) : fitsTo p lift f start (k + 1) = fitsTo p lift f start k ++ [phasesAt p.rds lift f.throw f.adv start (k : Int)] := by
 unfold fitsTo; rw [List.range_succ, List.map_append]; rfl
theorem fitsTo_length (p : Pic) (lift : List Int) (f : Fnd) (start : Int) (k : Nat) : (fitsTo p lift f start k).length = k := by unfold fitsTo; simp
theorem fits_bad {p : Pic} {f : Fnd} {start : Int} (hp : picB p = true) (ha : argB p f start = true) {k : Nat} (hk : k ≤ (lastC p.rds).toNat) (h : phasesAt p.rds (p.lift f.head.toNat) f.throw f.adv start (k : Int) = []) : fitsE p f start = 6 := by
 unfold fitsE
 rw [hp, ha]
 have : (fitsL p f start).any (fun l => l.isEmpty) = true := by
  rw [List.any_eq_true]
  exact ⟨_, List.mem_map.2 ⟨k, List.mem_range.2 (by omega), rfl⟩, by rw [h]; rfl⟩
 rw [if_pos rfl, if_pos rfl, if_pos this]
theorem fits_good {p : Pic} {f : Fnd} {start : Int} (hp : picB p = true) (ha : argB p f start = true) (h : ∀ k : Nat, k ≤ (lastC p.rds).toNat → phasesAt p.rds (p.lift f.head.toNat) f.throw f.adv start (k : Int) ≠ []) : fitsE p f start = 0 ∧ fitsV p f start = fitsTo p (p.lift f.head.toNat) f start ((lastC p.rds).toNat + 1) := by
 have hE : fitsE p f start = 0 := by
  unfold fitsE
  rw [hp, ha]
  have : (fitsL p f start).any (fun l => l.isEmpty) = false := by
   rw [List.any_eq_false]
   intro l hl
   obtain ⟨k, hk, rfl⟩ := List.mem_map.1 hl
   have := h k (by have := List.mem_range.1 hk; omega)
   simpa using this
  rw [if_pos rfl, if_pos rfl, if_neg (by rw [this]; decide)]
 exact ⟨hE, by unfold fitsV; rw [if_pos hE]; rfl⟩
end Go.Proofs.Ytkblockodaiigaa
namespace Go.Proofs.Ytkblockodaiigaa
set_option maxRecDepth 100000
set_option maxHeartbeats 1000000
open Go.RowKit
set_option linter.unusedVariables false
set_option linter.unusedSimpArgs false
def fndV (f : Fnd) : Value := .agg #[.int .i64 f.head, .int .i64 f.throw, .int .i64 f.adv, .int .i64 f.lo, .int .i64 f.hi]
def Fnd.Fit (f : Fnd) : Prop := fit64 f.head ∧ fit64 f.throw ∧ fit64 f.adv ∧ fit64 f.lo ∧ fit64 f.hi
theorem GridL.nil (w : World) : GridL w (.slice none 0 0) [] := ⟨none, 0, rfl, Nat.le_refl _, Nat.zero_le _, fun _ => rfl, fun h => absurd h (Nat.lt_irrefl 0)⟩
theorem argB_eq (p : Pic) (f : Fnd) (start : Int) : argB p f start = (within f.head 0 ((p.hs.length : Int) - 1) && (within f.throw p.tl p.th && (within f.adv p.al p.ah && (within start f.lo f.hi && within start 0 10000)))) := rfl
theorem fitsV_no {p : Pic} {f : Fnd} {start : Int} (h : fitsE p f start ≠ 0) : fitsV p f start = [] := if_neg h
theorem pf_r9_Fits (v : Value) (p : Pic) (f : Fnd) (start : Int) (w : World) (hp : IsPic w v p) (hf : p.Fit) (hff : f.Fit) (hs : fit64 start) :
  Calls Try.prog 13 #[v, fndV f, .int .i64 start] w fun e w' => ∃ v', e = .returned (.tuple #[v', .int .i64 (fitsE p f start)]) ∧ Below w.heap.size w w' ∧ GridL w' v' (fitsV p f start) := by
 have hp9 := hp
 obtain ⟨vh, vr, rfl, hh, hr⟩ := hp
 obtain ⟨HA, hc, rfl, hhl⟩ := hh.slice
 obtain ⟨RA, rc, rfl, hrl⟩ := hr.slice
 unfold maxLen at hhl hrl
 obtain ⟨fh, ft, fa, fl, fi⟩ := f
 obtain ⟨f1, f2, f3, f4, f5⟩ := hff
 dsimp only at f1 f2 f3 f4 f5
 show Calls Try.prog 13 #[_, .agg #[.int .i64 fh, .int .i64 ft, .int .i64 fa, .int .i64 fl, .int .i64 fi], _] w _
 obtain ⟨W0, hW0, hb0, k0⟩ := newb w (.cells #[.slice HA p.hs.length hc, .int .i64 p.tl, .int .i64 p.th, .int .i64 p.al, .int .i64 p.ah, .slice RA p.rds.length rc] 25)
 obtain ⟨W1, hW1, hb1, k1⟩ := newb W0 (.cells #[.int .i64 fh, .int .i64 ft, .int .i64 fa, .int .i64 fl, .int .i64 fi] 27)
 have k01 := blk hb1 k0
 have hbw1 := bel_set hb0 hb1
 obtain ⟨c0, c1, c2, c3, c4, c5⟩ := pc6 k01
 have z0 : w.heap.size < W0.heap.size := by rw [← hW0]; simp
 have kck := pf_r9_Check _ p W1 (hp9.le hbw1) hf
 obtain ⟨E, hE⟩ : ∃ E, picE p = E := ⟨_, rfl⟩
 rw [hE] at kck
 have hEB : E = if picB p then 0 else 90 := by rw [← hE]; rfl
 have ⟨hp9', hh', hr', hf', hb0', hb1', k0', k1'⟩ := hyd8 hp9 hh hr hf hb0 hb1 k0 k1
 have ⟨k01', hbw1', kck', hE', hEB'⟩ := hyd5 k01 hbw1 kck hE hEB
 clear hEB hE kck hbw1 k01 k1 k0 hb1 hb0 hf hr hh hp9
 go_enter Try.func13, Try.ntmps13
 go_wp2_with (fail)
 clear hW0 hW1
 go_at_call 34
 refine kck'.out.mono ?_
 rintro e W2 ⟨rfl, hb2⟩
 have hbw2 := bel_set hbw1'.out hb2
 have k02 := blk hb2 k01'.out
 have k12 := blk hb2 k1'.out
 clear c0 c1 c2 c3 c4 c5
 obtain ⟨c0, c1, c2, c3, c4, c5⟩ := pc6 k02
 obtain ⟨d0, d1, d2, d3, d4⟩ := pc5 k12
 cases hB : picB p with
 | false =>
  have hE9 : E = 90 := by rw [hEB'.out, hB]; rfl
  have hres : fitsE p ⟨fh, ft, fa, fl, fi⟩ start = 90 := by unfold fitsE; rw [hB]; rfl
  have hv := fitsV_no (show fitsE p ⟨fh, ft, fa, fl, fi⟩ start ≠ 0 by rw [hres]; decide)
  subst hE9
  have ⟨hb2', hbw2', k02', k12', hB', hres', hv'⟩ := hyd7 hb2 hbw2 k02 k12 hB hres hv
  clear hv hres hB k12 k02 hbw2 hb2
  go_wp2
  exact bodyPost_ret (v := .tuple #[.slice none 0 0, .int .i64 90]) (by simp [results, Try.results13, go_sem]) rfl ⟨_, by rw [hres'.out], hbw2'.out, by rw [hv'.out]; exact GridL.nil _⟩
 | true =>
  have hE9 : E = 0 := by rw [hEB'.out, hB]; rfl
  subst hE9
  have hok := picB_iff.1 hB
  have hbad : argB p ⟨fh, ft, fa, fl, fi⟩ start = false → fitsE p ⟨fh, ft, fa, fl, fi⟩ start = 2 := fun h => by unfold fitsE; rw [hB, h]; rfl
  have hbadv : argB p ⟨fh, ft, fa, fl, fi⟩ start = false → fitsV p ⟨fh, ft, fa, fl, fi⟩ start = [] := fun h => fitsV_no (by rw [hbad h]; decide)
  have w1 := fun W => pf_within_barleycornref09 fh 0 ((p.hs.length : Int) - 1) W
  have w2 := fun W => pf_within_barleycornref09 ft p.tl p.th W
  have w3 := fun W => pf_within_barleycornref09 fa p.al p.ah W
  have w4 := fun W => pf_within_barleycornref09 start fl fi W
  have w5 := fun W => pf_within_barleycornref09 start 0 10000 W
  have harg := argB_eq p ⟨fh, ft, fa, fl, fi⟩ start
  dsimp only at harg
  obtain ⟨B1, hB1⟩ : ∃ B, within fh 0 ((p.hs.length : Int) - 1) = B := ⟨_, rfl⟩
  obtain ⟨B2, hB2⟩ : ∃ B, within ft p.tl p.th = B := ⟨_, rfl⟩
  obtain ⟨B3, hB3⟩ : ∃ B, within fa p.al p.ah = B := ⟨_, rfl⟩
  obtain ⟨B4, hB4⟩ : ∃ B, within start fl fi = B := ⟨_, rfl⟩
  obtain ⟨B5, hB5⟩ : ∃ B, within start 0 10000 = B := ⟨_, rfl⟩
  rw [hB1, hB2, hB3, hB4, hB5] at harg
  rw [hB1] at w1
  rw [hB2] at w2
  rw [hB3] at w3
  rw [hB4] at w4
  rw [hB5] at w5
  have hlen1 : (1 : Int) ≤ (p.hs.length : Int) := by have := hok.heads.1; omega
  have ⟨hb2', hbw2', k02', k12', hB', hok', hbad', hbadv'⟩ := hyd8 hb2 hbw2 k02 k12 hB hok hbad hbadv
  have ⟨harg', hB1', hB2', hB3', hB4', hB5', w1', w2'⟩ := hyd8 harg hB1 hB2 hB3 hB4 hB5 w1 w2
  have ⟨w3', w4', w5'⟩ := hyd3 w3 w4 w5
  clear w5 w4 w3 w2 w1 hB5 hB4 hB3 hB2 hB1 harg hbadv hbad hok hB k12 k02 hbw2 hb2
  by_cases hall : (B1 && (B2 && (B3 && (B4 && B5)))) = true
  ·simp only [Bool.and_eq_true] at hall
   obtain ⟨rfl, rfl, rfl, rfl, rfl⟩ := hall
   have harg2 : argB p ⟨fh, ft, fa, fl, fi⟩ start = true := harg'.out
   obtain ⟨r1, r2⟩ : 0 ≤ fh ∧ fh ≤ (p.hs.length : Int) - 1 := within_iff.1 hB1'.out
   obtain ⟨r3, r4⟩ : p.tl ≤ ft ∧ ft ≤ p.th := within_iff.1 hB2'.out
   obtain ⟨r5, r6⟩ : p.al ≤ fa ∧ fa ≤ p.ah := within_iff.1 hB3'.out
   obtain ⟨m, rfl⟩ : ∃ m : Nat, fh = (m : Int) := ⟨fh.toNat, by omega⟩
   have hm : m < p.hs.length := by omega
   obtain ⟨bh, oh, ch, vr0, vb0, heq, hbl, g0, g1, i0, i1⟩ := (hh'.out.le hbw2'.out).at hm
   injection heq with e1 e2 e3
   subst e1 e3
   clear e2
   obtain ⟨Ar, cr, rfl, -⟩ := id i0
   obtain ⟨Ab, cb, rfl, -⟩ := id i1
   have hhd := hok'.out.head _ (List.getElem_mem hm)
   have hro : ∀ r ∈ p.rds, RdOk p.steps r := fun r h => hok'.out.rd r h
   obtain ⟨lift, hlift⟩ : ∃ l, liftL p.hs[m].ros p.hs[m].rub = l := ⟨_, rfl⟩
   have hlp : p.lift m = lift := by unfold Pic.lift; rw [List.getD_eq_getElem?_getD, List.getElem?_eq_getElem hm]; exact hlift
   have hll : lift.length = p.steps := by rw [← hlift, liftL_length]; exact hhd.1
   have hrub : rubOk p.hs[m].rub p.hs[m].ros.length = true := by rw [hhd.1]; exact hhd.2.2
   have hlo : rosOk lift = true := by rw [← hlift]; exact lift_ok hhd.2.1 hrub
   obtain ⟨hl3, hl96, -⟩ := rosOk_iff.1 hlo
   have htl := hok'.out.tl
   have hth := hok'.out.th
   have hal := hok'.out.al
   have hah := hok'.out.ah
   have hlc := lastC_le (rds := p.rds) (fun r h => (hok'.out.rd r h).1)
   have klift : ∀ W, Below W2.heap.size W2 W → Calls Try.prog 38 #[.slice Ar p.hs[m].ros.length cr, .slice Ab p.hs[m].rub.length cb] W fun e w' => ∃ v', e = .returned v' ∧ Below W.heap.size W w' ∧ w'.ownsRow W.heap.size 3 1 v' lift.length (lift.map vint) := fun W h => by
    have := pf_Lifted _ _ _ _ W (i0.below h) (i1.below h) hhd.2.1 hrub
    rwa [hlift] at this
   have j1 : (m : Int) < (p.hs.length : Int) := by omega
   have j2 : (0 : Int) ≤ (m : Int) := by omega
   generalize hRL : p.hs[m].ros.length = RL at g0 klift
   generalize hBL : p.hs[m].rub.length = BL at g1 klift
   have ⟨harg2', i0', i1', hhd', hro', hlift', hlp', hrub'⟩ := hyd8 harg2 i0 i1 hhd hro hlift hlp hrub
   have ⟨hlo', klift', hRL', hBL', hlc', hll'⟩ := hyd6 hlo klift hRL hBL hlc hll
   clear hll hlc hBL hRL klift hlo hrub hlp hlift hro hhd i1 i0 harg2
   go_wp2_with (first | (go_at_call 37; ((with_reducible refine (w1'.out _).mono ?_); rintro e w' ⟨rfl, rfl⟩)) | (go_at_call 37; ((with_reducible refine (w2'.out _).mono ?_); rintro e w' ⟨rfl, rfl⟩)) | (go_at_call 37; ((with_reducible refine (w3'.out _).mono ?_); rintro e w' ⟨rfl, rfl⟩)) | (go_at_call 37; ((with_reducible refine (w4'.out _).mono ?_); rintro e w' ⟨rfl, rfl⟩)) | (go_at_call 37; ((with_reducible refine (w5'.out _).mono ?_); rintro e w' ⟨rfl, rfl⟩)))
   go_still_tail 14, (by kernel_rfl)
   change wpList _ _ _ _ _ W2.drew
   have hbd : Below W2.heap.size W2 W2.drew := below_drewN' (Below.refl _ _) 1
   clear c0 c1 c2 c3 c4 c5 d0 d1 d2 d3 d4 g0 g1
   generalize hW3 : W2.drew = W3 at hbd ⊢
   clear hW3
   go_wp2_with (fail)
   go_at_call 38
   refine (klift'.out W3 hbd).mono ?_
   rintro e W4 ⟨vl, rfl, hb4, hol⟩
   have hb24 := bel_set hbd hb4
   have hbw4 := bel_set hbw2'.out hb24
   have k04 := blk hb24 k02'.out
   have k14 := blk hb24 k12'.out
   have hil := own_ints hol
   obtain ⟨LA, lc, rfl, -⟩ := id hil
   have hp4 := hp9'.out.le hbw4
   have hI0 : Below W4.heap.size W4 W4 ∧ GrI W4 W4.heap.size (.slice none 0 0) (fitsTo p lift ⟨(m : Int), ft, fa, fl, fi⟩ start 0) := ⟨Below.refl _ _, GrI.nil _ _⟩
   have ⟨hbd', hb4', hol', hb24', hbw4', k04', k14', hil'⟩ := hyd8 hbd hb4 hol hb24 hbw4 k04 k14 hil
   have ⟨hp4', hI0'⟩ := hyd2 hp4 hI0
   clear hI0 hp4 hil k14 k04 hbw4 hb24 hol hb4 hbd
   go_wp2_with (fail)
   go_loopw [11, 10] (fun cx vo wr => ∃ c : Nat, c ≤ 12 ∧ cx = .int .i64 (c : Int) ∧ Hid (Below W4.heap.size W4 wr ∧ GrI wr W4.heap.size vo (fitsTo p lift ⟨(m : Int), ft, fa, fl, fi⟩ start c)) ∧ Hid ((c : Int) ≤ lastC p.rds + 1 ∧ ∀ k : Nat, k < c → phasesAt p.rds lift ft fa start (k : Int) ≠ [])) (fun cx _ _ => 13 - (intOf cx).toNat)
   case atStart => exact ⟨0, by omega, rfl, hI0', Lib.hid ⟨by have := hlc'.out.1; simp; omega, fun k h => absurd h (Nat.not_lt_zero k)⟩⟩
   case round =>
    obtain ⟨cu, hcu, rfl, hI, hJ⟩ := hrel
    obtain ⟨hbv, hgr⟩ := hI.out
    obtain ⟨hcl, hne⟩ := hJ.out
    obtain ⟨AO, cO, rfl⟩ : ∃ A c, u10 = .slice A (fitsTo p lift ⟨(m : Int), ft, fa, fl, fi⟩ start cu).length c := by obtain ⟨_, _, h2, _⟩ := hgr; exact slice_formR h2
    obtain ⟨c0, c1, c2, c3, c4, c5⟩ := pc6 (blk hbv k04'.out)
    have klast := pf_r9_Last _ p wr (hp4'.out.le hbv)
    obtain ⟨T, hT⟩ : ∃ T, lastC p.rds = T := ⟨_, rfl⟩
    have hlc2 := hlc'.out
    rw [hT] at klast hcl hlc2
    obtain ⟨t0, t1, -, -⟩ := hlc2
    have hfl := fitsTo_length p lift ⟨(m : Int), ft, fa, fl, fi⟩ start cu
    have ⟨hI', hJ', hbv', hgr', hne', klast', hT', hfl'⟩ := hyd8 hI hJ hbv hgr hne klast hT hfl
    clear hfl hT klast hne hgr hbv hJ hI
    go_wp2_with (fail)
    go_at_call 39
    refine klast'.out.mono ?_
    rintro e W5 ⟨rfl, hb5⟩
    have hbv5 := bel_set hbv'.out hb5
    have hgr5 := hgr'.out.le hb5
    have hbw5 := bel_set hbw4'.out hbv5
    have kp5 := blk hbv5 k04'.out
    have kf5 := blk hbv5 k14'.out
    clear c0 c1 c2 c3 c4 c5
    by_cases hle : (cu : Int) ≤ T
    ·have hI5 : Below W5.heap.size W5 W5 ∧ W5.ownsRow W5.heap.size 3 1 (.slice none 0 0) (phasesTo p.rds lift ft fa start (cu : Int) 0).length ((phasesTo p.rds lift ft fa start (cu : Int) 0).map vint) := ⟨Below.refl _ _, World.ownsRow_nil _ _ _ _⟩
     have ⟨hb5', hbv5', hgr5', hbw5', kp5', kf5', hI5'⟩ := hyd7 hb5 hbv5 hgr5 hbw5 kp5 kf5 hI5
     clear hI5 kf5 kp5 hbw5 hgr5 hbv5 hb5
     go_wp2_with (fail)
     go_loopw [13, 12] (fun px vl wr => ∃ ph : Nat, ph ≤ lift.length ∧ px = .int .i64 (ph : Int) ∧ Hid (Below W5.heap.size W5 wr ∧ wr.ownsRow W5.heap.size 3 1 vl (phasesTo p.rds lift ft fa start (cu : Int) ph).length ((phasesTo p.rds lift ft fa start (cu : Int) ph).map vint))) (fun px _ _ => lift.length - (intOf px).toNat)
     case atStart => exact ⟨0, Nat.zero_le _, rfl, hI5'⟩
     case round =>
      obtain ⟨ph, hph, rfl, hK⟩ := hrel
      obtain ⟨hbk, hown⟩ := hK.out
      obtain ⟨AL, cL, rfl⟩ := slice_formR hown
      have hpl := phasesTo_length p.rds lift ft fa start (cu : Int) ph
      by_cases hlt : ph < lift.length
      ·have kpk := blk hbk kp5'.out
       obtain ⟨c0, c1, c2, c3, c4, c5⟩ := pc6 kpk
       obtain ⟨d0, d1, d2, d3, d4⟩ := pc5 (blk hbk kf5'.out)
       have hb4k := bel_set hbv5'.out hbk
       have hpk := hp4'.out.le hb4k
       have kst := pf_r9_starts _ _ p lift ft fa (cu : Int) ph wr hpk (hil'.out.below hb4k) hlo'.out (fun r h => by rw [hll'.out]; exact hro'.out r h) ⟨by omega, by omega⟩ ⟨by omega, by omega⟩ ⟨by omega, by omega⟩ hlt
       have hsucc := phasesTo_succ p.rds lift ft fa start (cu : Int) ph
       have hin : inB start (startS p.rds lift ft fa (cu : Int) ph) = within start (startS p.rds lift ft fa (cu : Int) ph).1 (startS p.rds lift ft fa (cu : Int) ph).2 := rfl
       obtain ⟨⟨x1, x2⟩, hx⟩ : ∃ x, startS p.rds lift ft fa (cu : Int) ph = x := ⟨_, rfl⟩
       rw [hx] at kst hsucc hin
       dsimp only at kst hin
       have kw := fun W => pf_within_barleycornref09 start x1 x2 W
       obtain ⟨B, hBB⟩ : ∃ B, within start x1 x2 = B := ⟨_, rfl⟩
       rw [hBB] at hin kw
       rw [hin] at hsucc
       have j3 : (ph : Int) < (lift.length : Int) := by omega
       have hbw6 := bel_set hbw4'.out hb4k
       have ⟨hK', hbk', hown', kpk', hb4k', hpk', kst', hsucc'⟩ := hyd8 hK hbk hown kpk hb4k hpk kst hsucc
       have ⟨hin', hx', kw', hBB', hpl', hbw6'⟩ := hyd6 hin hx kw hBB hpl hbw6
       clear hbw6 hpl hBB kw hx hin hsucc kst hpk hb4k kpk hown hbk hK
       go_wp2_with (fail)
       go_at_call 40
       with_reducible refine kst'.out.mono ?_
       rintro e W6 ⟨rfl, hb6⟩
       obtain ⟨W7, hW7, hb7, k7⟩ := newb W6 (.cells #[.int .i64 x1, .int .i64 x2] 90)
       obtain ⟨y0, y1⟩ := pc2 k7
       have hbk7 := bel_set hbk'.out (bel_set hb6 hb7)
       have hown7 := own_below hown'.out (bel_set hb6 hb7)
       have hsz7 := hbk7.size
       clear c0 c1 c2 c3 c4 c5 d0 d1 d2 d3 d4
       have ⟨hb6', hb7', k7', hbk7', hown7'⟩ := hyd5 hb6 hb7 k7 hbk7 hown7
       clear hown7 hbk7 k7 hb7 hb6
       cases B with
       | true =>
        go_wp2_with (first | (go_at_call 37; ((with_reducible refine (kw'.out _).mono ?_); rintro e w' ⟨rfl, rfl⟩)) | (at_builtin; go_must (refine wpList_appI rfl _ _ 36 rfl W5.heap.size 3 elemInt _ (phasesTo p.rds lift ft fa start (cu : Int) ph) rfl (hown7'.out.alloc _) _ [(ph : Int)] rfl (one_newI _ _ _) (by have := hpl'.out; simp; omega) (by simp; omega) ?_)))
        intro v3 w3 h1 h2 h3 _
        have hbk3 : Below W5.heap.size W5 w3 := (hbk7'.out.alloc hsz7 _).trans h2
        have hown3 : w3.ownsRow W5.heap.size 3 1 v3 (phasesTo p.rds lift ft fa start (cu : Int) (ph + 1)).length ((phasesTo p.rds lift ft fa start (cu : Int) (ph + 1)).map vint) := by rw [hsucc'.out]; simpa using h1
        have ⟨h1', h2', h3', hbk3', hown3'⟩ := hyd5 h1 h2 h3 hbk3 hown3
        clear hown3 hbk3 h3 h2 h1
        go_wp2
        go_roundw
        case rel => exact ⟨ph + 1, by omega, by go_num, Lib.hid ⟨hbk3'.out, hown3'.out⟩⟩
        case measure => simp [intOf]; omega
       | false =>
        have hown3 : W7.ownsRow W5.heap.size 3 1 (.slice AL (phasesTo p.rds lift ft fa start (cu : Int) ph).length cL) (phasesTo p.rds lift ft fa start (cu : Int) (ph + 1)).length ((phasesTo p.rds lift ft fa start (cu : Int) (ph + 1)).map vint) := by rw [hsucc'.out]; simpa using hown7'.out
        have hown3' := hyd1 hown3
        clear hown3
        go_wp2_with (first | (go_at_call 37; ((with_reducible refine (kw'.out _).mono ?_); rintro e w' ⟨rfl, rfl⟩)))
        go_roundw
        case rel => exact ⟨ph + 1, by omega, by go_num, Lib.hid ⟨hbk7'.out, hown3'.out⟩⟩
        case measure => simp [intOf]; omega
      ·obtain rfl : ph = lift.length := by omega
       have hpa : phasesTo p.rds lift ft fa start (cu : Int) lift.length = phasesAt p.rds lift ft fa start (cu : Int) := rfl
       have hi := own_ints hown
       have hrun := hgr5'.out.le hbk
       have hb4k := bel_set hbv5'.out hbk
       have hbwk := bel_set hbw4'.out hb4k
       have hTn : cu ≤ (lastC p.rds).toNat := by have := hT'.out; omega
       by_cases hz : (phasesTo p.rds lift ft fa start (cu : Int) lift.length).length = 0
       ·have h6 : fitsE p ⟨(m : Int), ft, fa, fl, fi⟩ start = 6 := fits_bad hB'.out harg2'.out hTn (by
         show phasesAt p.rds (p.lift (m : Int).toNat) ft fa start (cu : Int) = []
         rw [Int.toNat_natCast, hlp'.out, ← hpa]
         exact List.eq_nil_of_length_eq_zero hz)
        have hv6 := fitsV_no (show fitsE p ⟨(m : Int), ft, fa, fl, fi⟩ start ≠ 0 by rw [h6]; decide)
        have ⟨hK', hbk', hown', hpl', hpa', hi', hrun', hb4k'⟩ := hyd8 hK hbk hown hpl hpa hi hrun hb4k
        have ⟨hbwk', h6', hv6'⟩ := hyd3 hbwk h6 hv6
        clear hv6 h6 hbwk hb4k hrun hi hpa hpl hown hbk hK
        go_wp2
        exact bodyPost_ret (v := .tuple #[.slice none 0 0, .int .i64 6]) (by simp [results, Try.results13, go_sem]) rfl ⟨_, by rw [h6'.out], hbwk'.out, by rw [hv6'.out]; exact GridL.nil _⟩
       ·have hz2 : ¬ ((phasesTo p.rds lift ft fa start (cu : Int) lift.length).length : Int) = 0 := by omega
        obtain ⟨W8, hW8, hb8, k8⟩ := newb wr (.cells #[.slice AL (phasesTo p.rds lift ft fa start (cu : Int) lift.length).length cL] 36)
        have x8 := cell_of_row W8 wr.heap.size 0 _ _ _ k8
        have hr8 := hrun.le hb8
        have hi8 := hi.below hb8
        have hb48 := bel_set hb4k hb8
        have hsz8 := hb48.size
        have hfsucc := fitsTo_succ p lift ⟨(m : Int), ft, fa, fl, fi⟩ start cu
        have hne2 : ∀ k : Nat, k < cu + 1 → phasesAt p.rds lift ft fa start (k : Int) ≠ [] := fun k hk => by
         by_cases e : k = cu
         ·subst e; rw [← hpa]; intro h0; rw [h0] at hz; exact hz rfl
         ·exact hne'.out k (by omega)
        have ⟨hK', hbk', hown', hpl', hpa', hi', hrun', hb4k'⟩ := hyd8 hK hbk hown hpl hpa hi hrun hb4k
        have ⟨hbwk', hb8', k8', hr8', hi8', hb48', hfsucc', hne2'⟩ := hyd8 hbwk hb8 k8 hr8 hi8 hb48 hfsucc hne2
        clear hne2 hfsucc hb48 hi8 hr8 k8 hb8 hbwk hb4k hrun hi hpa hpl hown hbk hK
        go_wp2_with (first | (at_builtin; go_must (refine wpList_appR _ rfl _ _ rfl W4.heap.size (.slice AO (fitsTo p lift ⟨(m : Int), ft, fa, fl, fi⟩ start cu).length cO) (fitsTo p lift ⟨(m : Int), ft, fa, fl, fi⟩ start cu) rfl hr8'.out wr.heap.size AL cL (phasesTo p.rds lift ft fa start (cu : Int) lift.length) rfl x8 hi8'.out (by have := hfl'.out; omega) hsz8 ?_)))
        intro v9 w9 hg9 hb9
        have hg9b : GrI w9 W4.heap.size v9 (fitsTo p lift ⟨(m : Int), ft, fa, fl, fi⟩ start (cu + 1)) := by rw [hfsucc'.out]; exact hg9
        have hb49 : Below W4.heap.size W4 w9 := hb48'.out.trans (hb9 _ (Nat.le_refl _))
        have ⟨hg9', hb9', hg9b', hb49'⟩ := hyd4 hg9 hb9 hg9b hb49
        clear hb49 hg9b hb9 hg9
        go_wp2
        go_roundw
        case rel => exact ⟨cu + 1, by omega, by go_num, Lib.hid ⟨hb49'.out, hg9b'.out⟩, Lib.hid ⟨by have := hT'.out; omega, hne2'.out⟩⟩
        case measure => simp [intOf]; omega
    ·have hcu2 : cu = (lastC p.rds).toNat + 1 := by have := hT'.out; omega
     obtain ⟨hE0, hV0⟩ := fits_good (p := p) (f := ⟨(m : Int), ft, fa, fl, fi⟩) (start := start) hB'.out harg2'.out (fun k hk => by
      show phasesAt p.rds (p.lift (m : Int).toNat) ft fa start (k : Int) ≠ []
      rw [Int.toNat_natCast, hlp'.out]
      exact hne'.out k (by omega))
     have hV1 : fitsV p ⟨(m : Int), ft, fa, fl, fi⟩ start = fitsTo p lift ⟨(m : Int), ft, fa, fl, fi⟩ start cu := by
      rw [hV0, hcu2]
      show fitsTo p (p.lift (m : Int).toNat) _ start _ = _
      rw [Int.toNat_natCast, hlp'.out]
     have hgf := hgr5.grid
     have ⟨hb5', hbv5', hgr5', hbw5', kp5', kf5', hcu2', hE0'⟩ := hyd8 hb5 hbv5 hgr5 hbw5 kp5 kf5 hcu2 hE0
     have ⟨hV0', hV1', hgf'⟩ := hyd3 hV0 hV1 hgf
     clear hgf hV1 hV0 hE0 hcu2 kf5 kp5 hbw5 hgr5 hbv5 hb5
     go_wp2
     exact bodyPost_ret (v := .tuple #[.slice AO (fitsTo p lift ⟨(m : Int), ft, fa, fl, fi⟩ start cu).length cO, .int .i64 0]) (by simp [results, Try.results13, go_sem]) rfl ⟨_, by rw [hE0'.out], hbw5'.out, by rw [hV1'.out]; exact hgf'.out⟩
  ·have hno : argB p ⟨fh, ft, fa, fl, fi⟩ start = false := by rw [harg'.out]; simpa using hall
   have h1 := hbad'.out hno
   have h2 := hbadv'.out hno
   have ⟨hno', h1', h2', hall'⟩ := hyd4 hno h1 h2 hall
   clear hall h2 h1 hno
   cases B1
   ·go_wp2_with (first | (go_at_call 37; ((with_reducible refine (w1'.out _).mono ?_); rintro e w' ⟨rfl, rfl⟩)))
    exact bodyPost_ret (v := .tuple #[.slice none 0 0, .int .i64 2]) (by simp [results, Try.results13, go_sem]) rfl ⟨_, by rw [h1'.out], hbw2'.out, by rw [h2'.out]; exact GridL.nil _⟩
   cases B2
   ·go_wp2_with (first | (go_at_call 37; ((with_reducible refine (w1'.out _).mono ?_); rintro e w' ⟨rfl, rfl⟩)) | (go_at_call 37; ((with_reducible refine (w2'.out _).mono ?_); rintro e w' ⟨rfl, rfl⟩)))
    exact bodyPost_ret (v := .tuple #[.slice none 0 0, .int .i64 2]) (by simp [results, Try.results13, go_sem]) rfl ⟨_, by rw [h1'.out], hbw2'.out, by rw [h2'.out]; exact GridL.nil _⟩
   cases B3
   ·go_wp2_with (first | (go_at_call 37; ((with_reducible refine (w1'.out _).mono ?_); rintro e w' ⟨rfl, rfl⟩)) | (go_at_call 37; ((with_reducible refine (w2'.out _).mono ?_); rintro e w' ⟨rfl, rfl⟩)) | (go_at_call 37; ((with_reducible refine (w3'.out _).mono ?_); rintro e w' ⟨rfl, rfl⟩)))
    exact bodyPost_ret (v := .tuple #[.slice none 0 0, .int .i64 2]) (by simp [results, Try.results13, go_sem]) rfl ⟨_, by rw [h1'.out], hbw2'.out, by rw [h2'.out]; exact GridL.nil _⟩
   cases B4
   ·go_wp2_with (first | (go_at_call 37; ((with_reducible refine (w1'.out _).mono ?_); rintro e w' ⟨rfl, rfl⟩)) | (go_at_call 37; ((with_reducible refine (w2'.out _).mono ?_); rintro e w' ⟨rfl, rfl⟩)) | (go_at_call 37; ((with_reducible refine (w3'.out _).mono ?_); rintro e w' ⟨rfl, rfl⟩)) | (go_at_call 37; ((with_reducible refine (w4'.out _).mono ?_); rintro e w' ⟨rfl, rfl⟩)))
    exact bodyPost_ret (v := .tuple #[.slice none 0 0, .int .i64 2]) (by simp [results, Try.results13, go_sem]) rfl ⟨_, by rw [h1'.out], hbw2'.out, by rw [h2'.out]; exact GridL.nil _⟩
   cases B5
   ·go_wp2_with (first | (go_at_call 37; ((with_reducible refine (w1'.out _).mono ?_); rintro e w' ⟨rfl, rfl⟩)) | (go_at_call 37; ((with_reducible refine (w2'.out _).mono ?_); rintro e w' ⟨rfl, rfl⟩)) | (go_at_call 37; ((with_reducible refine (w3'.out _).mono ?_); rintro e w' ⟨rfl, rfl⟩)) | (go_at_call 37; ((with_reducible refine (w4'.out _).mono ?_); rintro e w' ⟨rfl, rfl⟩)) | (go_at_call 37; ((with_reducible refine (w5'.out _).mono ?_); rintro e w' ⟨rfl, rfl⟩)))
    exact bodyPost_ret (v := .tuple #[.slice none 0 0, .int .i64 2]) (by simp [results, Try.results13, go_sem]) rfl ⟨_, by rw [h1'.out], hbw2'.out, by rw [h2'.out]; exact GridL.nil _⟩
   exact absurd rfl hall'.out
end Go.Proofs.Ytkblockodaiigaa
namespace Go.Proofs.Ytkblockodaiigaa
set_option maxRecDepth 100000
set_option maxHeartbeats 1000000
open Go.RowKit
set_option linter.unusedVariables false
set_option linter.unusedSimpArgs false
def bestTo (L : List (List Int)) (steps n : Nat) (first : Int) (k : Nat) : Option (List Int) := (List.range k).foldl (fun b (all : Nat) => betterL b (listedL L steps n first (all : Int))) none
theorem bestTo_succ (L : List (List Int)) (steps n : Nat) (first : Int) (k : Nat) : bestTo L steps n first (k + 1) = betterL (bestTo L steps n first k) (listedL L steps n first (k : Int)) := by
 unfold bestTo; rw [List.range_succ, List.foldl_append]; rfl
theorem bestTo_length {L : List (List Int)} {steps n : Nat} {first : Int} (hn : 0 < n) : ∀ (k : Nat) (l : List Int), bestTo L steps n first k = some l → l.length = n
 | 0, l, h => by cases h
 | k + 1, l, h => by
  rw [bestTo_succ] at h
  unfold betterL at h
  split at h
  ·exact bestTo_length hn k l h
  ·rename_i x hx _
   injection h with h
   rw [← h]; exact listedL_length hn hx
  ·rename_i x b hx hb
   split at h
   ·injection h with h
    rw [← h]; exact listedL_length hn hx
   ·injection h with h
    rw [← h]; exact bestTo_length hn k b hb
theorem bestL_eq (L : List (List Int)) (steps n : Nat) (first : Int) : bestL L steps n first = bestTo L steps n first steps := rfl
theorem firstSome_none {α : Type} {f : Nat → Option α} : ∀ {l : List Nat}, (∀ k ∈ l, f k = none) → firstSome f l = none
 | [], _ => rfl
 | k :: l, h => by
  unfold firstSome
  rw [h k List.mem_cons_self]
  exact firstSome_none fun q hq => h q (List.mem_cons_of_mem _ hq)
theorem firstSome_append {α : Type} {f : Nat → Option α} : ∀ {l m : List Nat}, (∀ k ∈ l, f k = none) → firstSome f (l ++ m) = firstSome f m
 | [], _, _ => rfl
 | k :: l, m, h => by
  show firstSome f (k :: (l ++ m)) = _
  unfold firstSome
  rw [h k List.mem_cons_self]
  exact (firstSome_append fun q hq => h q (List.mem_cons_of_mem _ hq)).trans (by cases m <;> rfl)
theorem firstSome_range {α : Type} {f : Nat → Option α} {n k : Nat} {x : α} (hk : k < n) (hx : f k = some x) (h : ∀ j, j < k → f j = none) : firstSome f (List.range n) = some x := by
 have e : List.range n = List.range k ++ (List.range (n - k)).map (k + ·) := by
  rw [← List.range_add]; congr 1; omega
 rw [e, firstSome_append fun j hj => h j (List.mem_range.1 hj)]
 obtain ⟨d, hd⟩ : ∃ d, n - k = d + 1 := ⟨n - k - 1, by omega⟩
 rw [hd, List.range_succ_eq_map, List.map_cons]
 unfold firstSome
 rw [Nat.add_zero, hx]
theorem simple_some {L : List (List Int)} {steps n first : Nat} {l : List Int} (hn : 1 ≤ n) (hn2 : n ≤ 12) (hf : first < steps) (hb : bestL L steps n (first : Int) = some l) (h1 : ∀ k, 1 ≤ k → k < n → ∀ j, j < steps → bestL L steps k (j : Int) = none) (h2 : ∀ j, j < first → bestL L steps n (j : Int) = none) : simpleL L steps = some (first, l) := by
 unfold simpleL
 refine firstSome_range (k := n - 1) (by omega) ?_ fun k hk => ?_
 ·rw [show n - 1 + 1 = n by omega]
  exact firstSome_range hf (by rw [hb]; rfl) fun j hj => by rw [h2 j hj]; rfl
 ·exact firstSome_none fun j hj => by rw [h1 (k + 1) (by omega) (by omega) j (List.mem_range.1 hj)]; rfl
theorem simple_none {L : List (List Int)} {steps : Nat} (h1 : ∀ k, 1 ≤ k → k < 13 → ∀ j, j < steps → bestL L steps k (j : Int) = none) : simpleL L steps = none := by
 unfold simpleL
 exact firstSome_none fun k hk => firstSome_none fun j hj => by rw [h1 (k + 1) (by omega) (by have := List.mem_range.1 hk; omega) j (List.mem_range.1 hj)]; rfl
def simpE (p : Pic) (f : Fnd) (start : Int) : Int := if fitsE p f start = 0 then (if simpleL (fitsV p f start) p.steps = none then 6 else 0) else fitsE p f start
def simpP (p : Pic) (f : Fnd) (start : Int) : Prog := if fitsE p f start = 0 then (match simpleL (fitsV p f start) p.steps with
 | some (first, l) => ⟨movedL (p.hs.getD f.head.toNat default).ros (first : Int), (p.hs.getD f.head.toNat default).rub, start, f.throw, f.adv, l⟩
 | none => ⟨[], [], 0, 0, 0, []⟩) else ⟨[], [], 0, 0, 0, []⟩
theorem zeroProg (w : World) : IsProg w (.agg #[.slice none 0 0, .slice none 0 0, .int .i64 0, .int .i64 0, .int .i64 0, .slice none 0 0]) ⟨[], [], 0, 0, 0, []⟩ := ⟨_, _, _, rfl, Arr.nil _ _, Arr.nil _ _, Arr.nil _ _⟩
end Go.Proofs.Ytkblockodaiigaa
