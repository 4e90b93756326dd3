/- The reference's Simplest: the walk. -/
import Derived.Test.YtkblockodaiigaaRdFitsW
import Derived.Test.YtkblockodaiigaaMonoR
import Derived.ArgAppend
namespace Go.Proofs.Ytkblockodaiigaa
set_option maxRecDepth 100000
set_option maxHeartbeats 1000000
open Go.RowKit
set_option linter.unusedVariables false
set_option linter.unusedSimpArgs false
theorem pset6 {W : World} {X : Nat} {a b c d e f : Value} {t : TypeId} (h : W.heap[X]? = some (Obj.cells #[a, b, c, d, e, f] t)) (u0 u1 u2 u3 u4 u5 : Value) : ((((((W.setCell ⟨X, 0, none⟩ u0).setCell ⟨X, 1, none⟩ u1).setCell ⟨X, 2, none⟩ u2).setCell ⟨X, 3, none⟩ u3).setCell ⟨X, 4, none⟩ u4).setCell ⟨X, 5, none⟩ u5).heap[X]? = some (.cells #[u0, u1, u2, u3, u4, u5] t) := by
 simp only [World.setCell, Array.getElem?_modify, h]
 simp
theorem pset6b {n : Nat} {w W : World} {X : Nat} (h : Below n w W) (hX : n ≤ X) (u0 u1 u2 u3 u4 u5 : Value) : Below n w ((((((W.setCell ⟨X, 0, none⟩ u0).setCell ⟨X, 1, none⟩ u1).setCell ⟨X, 2, none⟩ u2).setCell ⟨X, 3, none⟩ u3).setCell ⟨X, 4, none⟩ u4).setCell ⟨X, 5, none⟩ u5) :=
 (((((Below.setCell h (p := ⟨X, 0, none⟩) hX _).setCell (p := ⟨X, 1, none⟩) hX _).setCell (p := ⟨X, 2, none⟩) hX _).setCell (p := ⟨X, 3, none⟩) hX _).setCell (p := ⟨X, 4, none⟩) hX _).setCell (p := ⟨X, 5, none⟩) hX _
def IntsN (n : Nat) (w : World) (v : Value) (L : List Int) : Prop := Ints w v L ∧ ∀ g, v.ownBlock = some g → n < g
theorem IntsN.later {n : Nat} {w w' : World} {v : Value} {L : List Int} (h : IntsN n w v L) (hb : Below w.heap.size w w') : IntsN n w' v L := ⟨h.1.below hb, h.2⟩
theorem IntsN.cells {n : Nat} {w w' : World} {v : Value} {L : List Int} (h : IntsN n w v L) (hs : w'.heap.size = w.heap.size) (hk : ∀ b, n < b → w'.heap[b]? = w.heap[b]?) : IntsN n w' v L := by
 obtain ⟨⟨A, c, rfl, h1, h2, h3, h4⟩, h5⟩ := h
 refine ⟨⟨A, c, rfl, h1, h2, h3, fun h0 => ?_⟩, h5⟩
 obtain ⟨b, off, rfl, hb, hc⟩ := h4 h0
 exact ⟨b, off, rfl, by omega, fun j hj => (World.cell?_of_block (a := ⟨b, off + j, none⟩) (hk b (h5 b rfl))).trans (hc j hj)⟩
theorem set6_kept {n : Nat} (W : World) (u0 u1 u2 u3 u4 u5 : Value) {b : Nat} (hb : n < b) : ((((((W.setCell ⟨n, 0, none⟩ u0).setCell ⟨n, 1, none⟩ u1).setCell ⟨n, 2, none⟩ u2).setCell ⟨n, 3, none⟩ u3).setCell ⟨n, 4, none⟩ u4).setCell ⟨n, 5, none⟩ u5).heap[b]? = W.heap[b]? := by
 have h : ¬ n = b := by omega
 simp only [World.setCell, Array.getElem?_modify, if_neg h]
theorem set6_size {n : Nat} (W : World) (u0 u1 u2 u3 u4 u5 : Value) : ((((((W.setCell ⟨n, 0, none⟩ u0).setCell ⟨n, 1, none⟩ u1).setCell ⟨n, 2, none⟩ u2).setCell ⟨n, 3, none⟩ u3).setCell ⟨n, 4, none⟩ u4).setCell ⟨n, 5, none⟩ u5).heap.size = W.heap.size := by
 simp [World.setCell]
def MPred.intsN (n : Nat) (L : List Int) : MPred := ⟨fun v w => IntsN n w v L, fun _ _ _ h hp => IntsN.later hp h⟩
def MPred.emp : MPred := ⟨fun v _ => ∃ B, v = .slice (some ⟨B, 0, none⟩) 0 0, fun _ _ _ _ h => h⟩
def ProgN (n : Nat) (w : World) (v : Value) (p : Prog) : Prop := ∃ v0 v1 v5, v = .agg #[v0, v1, .int .i64 p.start, .int .i64 p.throw, .int .i64 p.adv, v5] ∧ IntsN n w v0 p.ros ∧ IntsN n w v1 p.rub ∧ IntsN n w v5 p.shifts
def MPred.progN (n : Nat) (p : Prog) : MPred := ⟨fun v w => ProgN n w v p, fun _ _ _ h ⟨v0, v1, v5, e, a, b, c⟩ => ⟨v0, v1, v5, e, a.later h, b.later h, c.later h⟩⟩
theorem wpList_appE {P : Program} (w : World) {ops : Array Oper} {rest : List Oper} {o : Oper} {a : Act} {Q : Exit → Act → World → Prop} (hgd : o.guard = none) (s x : Operand) (t : TypeId)
  (ho : o.op = .call { callee := .builtin .append, args := #[s, x], argTypes := #[t, t] }) (e : TypeId) (hE : Elem1 P t e (.int .i64 0) 8)
  (B : Addr) (hs : a.eval s = .slice (some B) 0 0) (sv : Value) (ys : List Int) (hx : a.eval x = sv) (hsrc : Ints w sv ys) (h0 : 0 < ys.length) (hl : ys.length ≤ 1000000000)
  (hK : ∀ v' w', Below w.heap.size w w' → IntsN (w.heap.size - 1) w' v' ys → wpList P ops Q rest (a.put o.dst v') w') : wpList P ops Q (o :: rest) a w := by
 have hsrc0 := hsrc
 obtain ⟨A, c, rfl, hlc, hcm, hN, hc⟩ := hsrc
 obtain ⟨b, off, rfl, hb, hcl⟩ := hc h0
 obtain ⟨ht, hi, hzs⟩ := hE
 obtain ⟨i, hi0, hz, hsz, hby⟩ := info_parts hi
 refine wpList_append_grows w hgd s x t ho e i _ 1 8 ht hi0 hz hsz hby hzs (by decide) (some B) 0 0 [] hs (by simp) rfl (by simp) ⟨b, off, none⟩ ys.length c (ys.map vint) hx (by simp) hsrc0.news (by simp [Value.oneCell']) (by omega) (by unfold maxLen; omega) (by omega) fun v' w' h1 h2 => ?_
 refine hK v' w' ((Below.refl _ _).grown h2 (Nat.le_refl _) fun k hk => by cases hk) ⟨Arr.of_own (by simpa using h1), fun g hg => ?_⟩
 have h := (h1.lt g hg).1
 omega
theorem pf_r9_Simplest (v : Value) (p : Pic) (f : Fnd) (start : Int) (w : World) (hp : IsPic w v p) (hf : p.Fit) (hff : f.Fit) (hs : fit64 start) :
  Calls Try.prog 15 #[v, fndV f, .int .i64 start] w fun e w' => ∃ v', e = .returned (.tuple #[v', .int .i64 (simpE p f start)]) ∧ Below w.heap.size w w' ∧ IsProg w' v' (simpP p f start) := by
 have hp9 := hp
 obtain ⟨vh, vr, rfl, hh, hr⟩ := hp
 obtain ⟨HA, hc, rfl, hhl⟩ := hh.slice
 obtain ⟨RA, rc, rfl, hrl⟩ := hr.slice
 unfold maxLen at hhl hrl
 have hff9 := hff
 obtain ⟨fh, ft, fa, fl, fi⟩ := f
 show Calls Try.prog 15 #[_, .agg #[.int .i64 fh, .int .i64 ft, .int .i64 fa, .int .i64 fl, .int .i64 fi], _] w _
 obtain ⟨W0, hW0, hb0, k0⟩ := newb w (.cells #[.slice HA p.hs.length hc, .int .i64 p.tl, .int .i64 p.th, .int .i64 p.al, .int .i64 p.ah, .slice RA p.rds.length rc] 25)
 obtain ⟨W1, hW1, hb1, k1⟩ := newb W0 (.cells #[.int .i64 fh, .int .i64 ft, .int .i64 fa, .int .i64 fl, .int .i64 fi] 27)
 obtain ⟨W2, hW2, hb2, k2⟩ := newb W1 (.cells #[.slice none 0 0, .slice none 0 0, .int .i64 0, .int .i64 0, .int .i64 0, .slice none 0 0] 38)
 have hbw1 := bel_set hb0 hb1
 have hbw2 := bel_set hbw1 hb2
 have k02 := blk hb2 (blk hb1 k0)
 have k12 := blk hb2 k1
 have z0 : w.heap.size < W0.heap.size := by rw [← hW0]; simp
 have z1 : W0.heap.size < W1.heap.size := by rw [← hW1]; simp
 obtain ⟨c0, c1, c2, c3, c4, c5⟩ := pc6 k02
 obtain ⟨d0, d1, d2, d3, d4⟩ := pc5 k12
 have kfit : ∀ W, Below w.heap.size w W → Calls Try.prog 13 #[.agg #[.slice HA p.hs.length hc, .int .i64 p.tl, .int .i64 p.th, .int .i64 p.al, .int .i64 p.ah, .slice RA p.rds.length rc], .agg #[.int .i64 fh, .int .i64 ft, .int .i64 fa, .int .i64 fl, .int .i64 fi], .int .i64 start] W fun e w' => ∃ v', e = .returned (.tuple #[v', .int .i64 (fitsE p ⟨fh, ft, fa, fl, fi⟩ start)]) ∧ Below W.heap.size W w' ∧ GridL w' v' (fitsV p ⟨fh, ft, fa, fl, fi⟩ start) := fun W h => pf_r9_Fits _ p ⟨fh, ft, fa, fl, fi⟩ start W (hp9.le h) hf hff9 hs
 obtain ⟨E, hE⟩ : ∃ E, fitsE p ⟨fh, ft, fa, fl, fi⟩ start = E := ⟨_, rfl⟩
 obtain ⟨L, hL⟩ : ∃ L, fitsV p ⟨fh, ft, fa, fl, fi⟩ start = L := ⟨_, rfl⟩
 rw [hE, hL] at kfit
 have ⟨hp9', hh', hr', hf', hff9', hb0', hb1', hb2'⟩ := hyd8 hp9 hh hr hf hff9 hb0 hb1 hb2
 have ⟨k0', k1', k2', hbw1', hbw2', k02', k12', kfit'⟩ := hyd8 k0 k1 k2 hbw1 hbw2 k02 k12 kfit
 have ⟨hE', hL'⟩ := hyd2 hE hL
 clear hL hE kfit k12 k02 hbw2 hbw1 k2 k1 k0 hb2 hb1 hb0 hff9 hf hr hh hp9
 go_enter Try.func15, Try.ntmps15
 go_wp2_with (fail)
 clear hW0 hW1 hW2
 generalize hP1 : W0.heap.size = P1 at *
 generalize hP2 : W1.heap.size = P2 at *
 have ⟨hP1', hP2'⟩ := hyd2 hP1 hP2
 clear hP2 hP1
 go_at_call 13
 refine (kfit'.out W2 hbw2'.out).mono ?_
 rintro e W3 ⟨vL, rfl, hb3, hgL⟩
 have hbw3 := bel_set hbw2'.out hb3
 have k03 := blk hb3 k02'.out
 have k13 := blk hb3 k12'.out
 have k23 := blk hb3 k2'.out
 obtain ⟨GA, gc, rfl, hgm⟩ := hgL.slice
 clear c0 c1 c2 c3 c4 c5 d0 d1 d2 d3 d4
 by_cases hE0 : E = 0
 ·subst hE0
  have hpb : picB p = true := by
   have h := hE'.out
   unfold fitsE at h
   split at h
   ·assumption
   ·cases h
  have harg : argB p ⟨fh, ft, fa, fl, fi⟩ start = true := by
   have h := hE'.out
   unfold fitsE at h
   rw [if_pos hpb] at h
   split at h
   ·assumption
   ·cases h
  have hok := picB_iff.1 hpb
  obtain ⟨r1, r2⟩ : 0 ≤ fh ∧ fh ≤ (p.hs.length : Int) - 1 := by
   rw [argB_eq] at harg
   simp only [Bool.and_eq_true] at harg
   exact within_iff.1 harg.1
  obtain ⟨m, rfl⟩ : ∃ m : Nat, fh = (m : Int) := ⟨fh.toNat, by omega⟩
  have hm : m < p.hs.length := by omega
  obtain ⟨bh, oh, ch, vr0, vb0, heq, hbl, g0, g1, i0, i1⟩ := (hh'.out.le hbw3).at hm
  injection heq with e1 e2 e3
  subst e1 e3
  clear e2
  obtain ⟨Ar, cr, rfl, -⟩ := id i0
  obtain ⟨Ab, cb, rfl, -⟩ := id i1
  have hhd := hok.head _ (List.getElem_mem hm)
  have hst := hok.steps
  rw [hhd.1] at g0 i0
  obtain ⟨W4, hW4, hb4, k4⟩ := newb W3 (.cells #[.slice Ar p.steps cr, .slice Ab p.hs[m].rub.length cb] 58)
  obtain ⟨c0, c1, c2, c3, c4, c5⟩ := pc6 k03
  obtain ⟨d0, d1, d2, d3, d4⟩ := pc5 k13
  obtain ⟨x0, x1⟩ := pc2 k4
  have j1 : (m : Int) < (p.hs.length : Int) := by omega
  have j2 : (0 : Int) ≤ (m : Int) := by omega
  have hbw4 := bel_set hbw3 hb4
  have hgL4 := hgL.le hb4
  have hLl : L.length ≤ 1000 := by
   have hlc := lastC_le (rds := p.rds) (fun r h => (hok.rd r h).1)
   rw [← hL'.out]
   unfold fitsV fitsL
   split
   ·rw [List.length_map, List.length_range]; omega
   ·simp
  have k24 := blk hb4 k23
  have k14 := blk hb4 k13
  have z4 : P2 < W4.heap.size := (gsl k24)
  have i04 := i0.below hb4
  have i14 := i1.below hb4
  have hPR : ∀ q, simpleL L p.steps = q → simpE p ⟨(m : Int), ft, fa, fl, fi⟩ start = (if q = none then 6 else 0) := fun q h => by unfold simpE; rw [hE'.out, hL'.out, h]; rfl
  generalize hBL : p.hs[m].rub.length = BL at *
  have ⟨hb3', hgL', hbw3', k03', k13', k23', hpb', harg'⟩ := hyd8 hb3 hgL hbw3 k03 k13 k23 hpb harg
  have ⟨hok', i0', i1', hhd', k4', hb4', hbw4', hgL4'⟩ := hyd8 hok i0 i1 hhd k4 hb4 hbw4 hgL4
  have ⟨k24', k14', i04', i14', hPR', hBL'⟩ := hyd6 k24 k14 i04 i14 hPR hBL
  clear hBL hPR i14 i04 k14 k24 hgL4 hbw4 hb4 k4 hhd i1 i0 hok harg hpb k23 k13 k03 hbw3 hgL hb3
  go_wp2_with (fail)
  clear hW4 c0 c1 c2 c3 c4 c5 d0 d1 d2 d3 d4 x0 x1 g0 g1
  generalize hP4 : W3.heap.size = P4 at *
  have hP4' := hyd1 hP4
  clear hP4
  go_loopw [12] (fun nx wr => ∃ n : Nat, 1 ≤ n ∧ n ≤ 13 ∧ nx = .int .i64 (n : Int) ∧ Hid (Below W4.heap.size W4 wr) ∧ Hid (∀ k, 1 ≤ k → k < n → ∀ j, j < p.steps → bestL L p.steps k (j : Int) = none)) (fun nx _ => 14 - (intOf nx).toNat)
  case atStart => exact ⟨1, by omega, by omega, rfl, Lib.hid (Below.refl _ _), Lib.hid fun k h1 h2 => absurd h1 (by omega)⟩
  case round =>
   obtain ⟨n, hn1, hn2, rfl, hbn, hnone⟩ := hrel
   by_cases hn : n ≤ 12
   ·have j3 : (n : Int) ≤ 12 := by omega
    go_wp2_with (fail)
    rename World => wn
    go_loopw [13] (fun fx wr => ∃ first : Nat, first ≤ p.steps ∧ fx = .int .i64 (first : Int) ∧ Hid (Below W4.heap.size W4 wr) ∧ Hid (∀ j, j < first → bestL L p.steps n (j : Int) = none)) (fun fx _ => p.steps - (intOf fx).toNat)
    case atStart => exact ⟨0, Nat.zero_le _, rfl, hbn, Lib.hid fun j h => absurd h (Nat.not_lt_zero j)⟩
    case round =>
     obtain ⟨first, hfi, rfl, hbf, hfnone⟩ := hrel
     by_cases hfl : first < p.steps
     ·have j4 : (first : Int) < (p.steps : Int) := by omega
      have hI0 : Below W4.heap.size W4 wr ∧ IntsN P2 wr (.slice none 0 0) ((bestTo L p.steps n (first : Int) 0).getD []) := ⟨hbf.out, Arr.nil _ _, fun g hg => by cases hg⟩
      have hI0' := hyd1 hI0
      clear hI0
      go_wp2_with (fail)
      rename World => wf
      go_loopw [15, 14] (fun ax vb wr => ∃ all : Nat, all ≤ p.steps ∧ ax = .int .i64 (all : Int) ∧ Hid (Below W4.heap.size W4 wr ∧ IntsN P2 wr vb ((bestTo L p.steps n (first : Int) all).getD []))) (fun ax _ _ => p.steps - (intOf ax).toNat)
      case atStart => exact ⟨0, Nat.zero_le _, rfl, hI0'⟩
      case round =>
       obtain ⟨all, hal, rfl, hI⟩ := hrel
       obtain ⟨hba, hib, hnb⟩ := hI.out
       obtain ⟨BA, bc, rfl, -⟩ := id hib
       obtain ⟨bl, hbl⟩ : ∃ bl, ((bestTo L p.steps n (first : Int) all).getD []).length = bl := ⟨_, rfl⟩
       simp only [hbl] at hib hnb ⊢
       clear hI
       by_cases hall : all < p.steps
       ·have kli := pf_r9_listed _ L p.steps n (first : Int) (all : Int) wr (hgL4'.out.le hba) hLl (by omega) hn (by omega) (by omega) ⟨by omega, by omega⟩ ⟨by omega, by omega⟩
        have hsucc := bestTo_succ L p.steps n (first : Int) all
        obtain ⟨X, hX⟩ : ∃ X, listedL L p.steps n (first : Int) (all : Int) = X := ⟨_, rfl⟩
        obtain ⟨Bo, hBo⟩ : ∃ B, bestTo L p.steps n (first : Int) all = B := ⟨_, rfl⟩
        have hXl : ∀ l, X = some l → l.length = n := fun l h => listedL_length (by omega) (hX.trans h)
        have hBl : ∀ l, Bo = some l → l.length = n := fun l h => bestTo_length (by omega) all l (hBo.trans h)
        rw [hX] at kli hsucc
        rw [hBo] at hsucc
        have j5 : (all : Int) < (p.steps : Int) := by omega
        have ⟨hbl', hba', hib', kli', hsucc', hX', hXl', hBl'⟩ := hyd8 hbl hba hib kli hsucc hX hXl hBl
        clear hBl hXl hX hsucc kli hib hba hbl
        go_wp2_with (fail)
        go_at_call 45
        refine kli'.out.mono ?_
        rintro e W5 ⟨vx, rfl, hb5, hix, hnx⟩
        replace hnx : ∀ g, vx.ownBlock = some g → P2 < g := fun g hg => by have h := hnx g hg; have h2 := hba'.out.size; omega
        have hba5 := bel_set hba'.out hb5
        have hib5 := hib'.out.below hb5
        obtain ⟨XA, xc, rfl, -⟩ := id hix
        cases X with
        | none =>
         have hib7 : Ints W5 (.slice BA bl bc) (Bo.getD []) := by rw [← hBo]; exact hib5
         have hBn : (betterL Bo none).getD [] = Bo.getD [] := by cases Bo <;> rfl
         have hn9 : Below W4.heap.size W4 W5 ∧ IntsN P2 W5 (.slice BA bl bc) ((bestTo L p.steps n (first : Int) (all + 1)).getD []) := ⟨hba5, by rw [hsucc'.out, hBn]; exact hib7, hnb⟩
         have ⟨hb5', hba5', hib5', hix', hn9', hBo', hib7', hBn'⟩ := hyd8 hb5 hba5 hib5 hix hn9 hBo hib7 hBn
         clear hBn hib7 hBo hn9 hix hib5 hba5 hb5
         go_wp2
         go_roundw
         case rel => exact ⟨all + 1, by omega, by go_num, hn9'⟩
         case measure => simp [intOf]; omega
        | some l =>
         have hll := hXl'.out l rfl
         have hl0 : (0 : Int) < (l.length : Int) := by omega
         have hix2 : Ints W5 (.slice XA l.length xc) l := hix
         cases Bo with
         | none =>
          obtain rfl : bl = 0 := by rw [← hbl'.out, hBo]; rfl
          have hn9 : Below W4.heap.size W4 W5 ∧ IntsN P2 W5 (.slice XA l.length xc) ((bestTo L p.steps n (first : Int) (all + 1)).getD []) := ⟨hba5, by rw [hsucc'.out]; exact hix2, hnx⟩
          have ⟨hb5', hba5', hib5', hix', hix2', hn9', hBo', hll'⟩ := hyd8 hb5 hba5 hib5 hix hix2 hn9 hBo hll
          clear hll hBo hn9 hix2 hix hib5 hba5 hb5
          go_wp2
          go_roundw
          case rel => exact ⟨all + 1, by omega, by go_num, hn9'⟩
          case measure => simp [intOf]; omega
         | some b =>
          have hlb := hBl'.out b rfl
          have hle : bl = b.length := by rw [← hbl'.out, hBo]; rfl
          have hnz : ¬ (bl : Int) = 0 := by omega
          have hnz2 : 0 < bl := by omega
          have hib6 : Ints W5 (.slice BA bl bc) b := by have h := hib5; rw [hBo] at h; exact h
          have kless := pf_r9_less _ _ l b W5 hix2 hib6 (by omega)
          obtain ⟨F, hF⟩ : ∃ F, lessL l b = F := ⟨_, rfl⟩
          rw [hF] at kless
          have ⟨hb5', hba5', hib5', hix', hix2', hib6', hBo', hll'⟩ := hyd8 hb5 hba5 hib5 hix hix2 hib6 hBo hll
          have ⟨hlb', hle', kless', hF'⟩ := hyd4 hlb hle kless hF
          clear hF kless hle hlb hll hBo hib6 hix2 hix hib5 hba5 hb5
          cases F with
          | true =>
           go_wp2_with (fail)
           go_at_call 46
           refine kless'.out.mono ?_
           rintro e w' ⟨rfl, q, rfl⟩
           have hn9 : Below W4.heap.size W4 (W5.drewN q) ∧ IntsN P2 (W5.drewN q) (.slice XA l.length xc) ((bestTo L p.steps n (first : Int) (all + 1)).getD []) := ⟨below_drewN' hba5'.out q, by rw [hsucc'.out]; show Ints _ _ ((if lessL l b then some l else some b).getD []); rw [hF'.out]; exact hix2'.out.below (below_drewN' (Below.refl _ _) q), hnx⟩
           have hn9' := hyd1 hn9
           clear hn9
           go_wp2
           go_roundw
           case rel => exact ⟨all + 1, by omega, by go_num, hn9'⟩
           case measure => simp [intOf]; omega
          | false =>
           go_wp2_with (fail)
           go_at_call 46
           refine kless'.out.mono ?_
           rintro e w' ⟨rfl, q, rfl⟩
           have hn9 : Below W4.heap.size W4 (W5.drewN q) ∧ IntsN P2 (W5.drewN q) (.slice BA bl bc) ((bestTo L p.steps n (first : Int) (all + 1)).getD []) := ⟨below_drewN' hba5'.out q, by rw [hsucc'.out]; show Ints _ _ ((if lessL l b then some l else some b).getD []); rw [hF'.out]; exact hib6'.out.below (below_drewN' (Below.refl _ _) q), hnb⟩
           have hn9' := hyd1 hn9
           clear hn9
           go_wp2
           go_roundw
           case rel => exact ⟨all + 1, by omega, by go_num, hn9'⟩
           case measure => simp [intOf]; omega
       ·obtain rfl : all = p.steps := by omega
        obtain ⟨Bo, hBo⟩ : ∃ B, bestTo L p.steps n (first : Int) p.steps = B := ⟨_, rfl⟩
        cases Bo with
        | none =>
         obtain rfl : bl = 0 := by rw [← hbl, hBo]; rfl
         have hn9 : ∀ j, j < first + 1 → bestL L p.steps n (j : Int) = none := fun j hj => by
          by_cases e : j = first
          ·subst e; rw [bestL_eq]; exact hBo
          ·exact hfnone.out j (by omega)
         have ⟨hbl', hba', hib', hBo', hn9'⟩ := hyd5 hbl hba hib hBo hn9
         clear hn9 hBo hib hba hbl
         go_wp2
         go_roundw
         case rel => exact ⟨first + 1, by omega, by go_num, hba'.out, hn9'.out⟩
         case measure => simp [intOf]; omega
        | some b =>
--@ARM20
         have hlb := bestTo_length (by omega) p.steps b hBo
         have hIb : IntsN P2 wr (.slice BA bl bc) b := ⟨by have h := hib; rw [hBo] at h; exact h, hnb⟩
         have hbb : bl = b.length := by rw [← hbl, hBo]; rfl
         have hb1 : 0 < bl := by omega
         have hb2 : (0 : Int) < (bl : Int) := by omega
         have k4r := blk hba k4'.out
         have k1r := blk hba k14'.out
         have k2r := blk hba k24'.out
         have hir := i04'.out.below hba
         have hiu := i14'.out.below hba
         have hru : 0 < p.hs[m].rub.length ∧ p.hs[m].rub.length ≤ 1000 := by obtain ⟨q1, q2, q3, -⟩ := rubOk_iff.1 hhd'.out.2.2; omega
         have hsn := simple_some hn1 hn hfl (by rw [bestL_eq]; exact hBo) hnone.out hfnone.out
         have hgd : p.hs.getD ((m : Int)).toNat default = p.hs[m] := by simp [hm]
         have hE6 : simpE p ⟨(m : Int), ft, fa, fl, fi⟩ start = 0 := by rw [hPR'.out _ hsn]; rfl
         have hp0 : simpP p ⟨(m : Int), ft, fa, fl, fi⟩ start = ⟨movedL p.hs[m].ros (first : Int), p.hs[m].rub, start, ft, fa, b⟩ := by unfold simpP; rw [if_pos hE'.out, hL'.out, hsn]; show (⟨movedL (p.hs.getD ((m : Int)).toNat default).ros (first : Int), (p.hs.getD ((m : Int)).toNat default).rub, start, ft, fa, b⟩ : Prog) = _; rw [hgd]
         have kmov : ∀ W, Le wr W → Calls Try.prog 47 #[.slice Ar p.steps cr, .int .i64 (first : Int)] W fun e w' => ∃ v', e = .returned v' ∧ Le W w' ∧ IntsN P2 w' v' (movedL p.hs[m].ros (first : Int)) := fun W h => (pf_Moved _ _ _ W (hir.below h) (by rw [hhd'.out.1]; omega) (by omega)).mono fun e w' ⟨v', h1, h2, h3⟩ => ⟨v', h1, h2, own_ints h3, fun g hg => by have q1 := (h3.lt g hg).1; have q2 := Below.size h; have q3 := hba.size; omega⟩
         have ⟨hbl', hba', hib', hBo', hlb', hIb', hbb', k4r'⟩ := hyd8 hbl hba hib hBo hlb hIb hbb k4r
         have ⟨k1r', k2r', hir', hiu', hru', hsn', hgd', hE6'⟩ := hyd8 k1r k2r hir hiu hru hsn hgd hE6
         have ⟨hp0', kmov'⟩ := hyd2 hp0 kmov
         clear kmov hp0 hE6 hgd hsn hru hiu hir k2r k1r k4r hbb hIb hlb hBo hib hba hbl
         go_wp2_with (fail)
         refine wp_region_monoT (R := leRel) 15 [some 74, some 75, some 76, some 77, some 78, some 79, some 80, some 81, some 82, some 83, some 84, some 85, some 86, some 87, some 88, none, some 7] [[], [0], [], [1, 2], [], [], [5], [4, 6], [], [], [9], [], [11], [], [3, 7, 8, 10, 12, 13], [14], []]
          [.eq (.pointer (some ⟨P4, 0, none⟩)), .eq (.slice Ar p.steps cr), .eq (.int .i64 (first : Int)), MPred.intsN P2 (movedL p.hs[m].ros (first : Int)), MPred.emp, .eq (.pointer (some ⟨P4, 1, none⟩)), .eq (.slice Ab BL cb), MPred.intsN P2 p.hs[m].rub, .eq (.int .i64 start), .eq (.pointer (some ⟨P1, 1, none⟩)), .eq (.int .i64 ft), .eq (.pointer (some ⟨P1, 2, none⟩)), .eq (.int .i64 fa), .eq (.slice BA bl bc), MPred.progN P2 ⟨movedL p.hs[m].ros (first : Int), p.hs[m].rub, start, ft, fa, b⟩] (fun _ _ => False) (by kernel_rfl) (by kernel_rfl) (by kernel_rfl) (by kernel_rfl) (by kernel_rfl) ?_ (fun _ _ _ _ h => h.elim) ?_
         ·simp only [List.take_succ_cons, List.take_zero]
          refine sMc rfl ?_ (sMc rfl ?_ (sMc rfl ?_ (sMc rfl ?_ (sMc rfl ?_ (sMc rfl ?_ (sMc rfl ?_ (sMc rfl ?_ (sMc rfl ?_ (sMc rfl ?_ (sMc rfl ?_ (sMc rfl ?_ (sMc rfl ?_ (sMc rfl ?_ (sMc rfl ?_ (stepsG_nil)))))))))))))))
          ·intro xv W hR hf Q hK hP
           simp only [fA] at hK ⊢
           go_wp2
           exact hK _ _ lrR rfl
          ·intro xv W hR hf Q hK hP
           obtain ⟨e0, -⟩ := hf
           change _ = _ at e0
           have cc := (pc2 (blk hR k4r'.out)).1
           simp only [fA, e0] at hK ⊢
           go_wp2
           exact hK _ _ lrR rfl
          ·intro xv W hR hf Q hK hP
           simp only [fA] at hK ⊢
           go_wp2
           exact hK _ _ lrR rfl
          ·intro xv W hR hf Q hK hP
           obtain ⟨e0, e1, -⟩ := hf
           change _ = _ at e0 e1
           simp only [fA, e0, e1] at hK ⊢
           go_wp2_with (fail)
           go_at_call 47
           refine (kmov'.out W hR).mono ?_
           rintro e w' ⟨v', rfl, y1, y2⟩
           go_wp2
           exact hK _ _ y1 y2
          ·intro xv W hR hf Q hK hP
           simp only [fA] at hK ⊢
           go_wp2
           exact hK _ _ (alc1 _ _) ⟨_, rfl⟩
          ·intro xv W hR hf Q hK hP
           simp only [fA] at hK ⊢
           go_wp2
           exact hK _ _ lrR rfl
          ·intro xv W hR hf Q hK hP
           obtain ⟨e0, -⟩ := hf
           change _ = _ at e0
           have cc := (pc2 (blk hR k4r'.out)).2
           simp only [fA, e0] at hK ⊢
           go_wp2
           exact hK _ _ lrR rfl
          ·intro xv W hR hf Q hK hP
           obtain ⟨e0, e1, -⟩ := hf
           change _ = _ at e1
           replace e0 : ∃ B, (xv 4) = .slice (some ⟨B, 0, none⟩) 0 0 := e0
           obtain ⟨B, e0⟩ := e0
           simp only [fA, e1, e0] at hK ⊢
           refine wpList_appE W rfl (.tmp 78) (.tmp 80) 36 rfl 3 elemInt ⟨B, 0, none⟩ rfl (.slice Ab BL cb) p.hs[m].rub rfl (hiu'.out.below hR) hru'.out.1 (by have := hru'.out.2; omega) fun v' w' y1 y2 => ?_
           exact hK _ _ y1 ⟨y2.1, fun g hg => by have h := y2.2 g hg; have h2 := hR.size; have h3 := hba'.out.size; omega⟩
          ·intro xv W hR hf Q hK hP
           simp only [fA] at hK ⊢
           go_wp2
           exact hK _ _ lrR rfl
          ·intro xv W hR hf Q hK hP
           simp only [fA] at hK ⊢
           go_wp2
           exact hK _ _ lrR rfl
          ·intro xv W hR hf Q hK hP
           obtain ⟨e0, -⟩ := hf
           change _ = _ at e0
           have cc := (pc5 (blk hR k1r'.out)).2.1
           simp only [fA, e0] at hK ⊢
           go_wp2
           exact hK _ _ lrR rfl
          ·intro xv W hR hf Q hK hP
           simp only [fA] at hK ⊢
           go_wp2
           exact hK _ _ lrR rfl
          ·intro xv W hR hf Q hK hP
           obtain ⟨e0, -⟩ := hf
           change _ = _ at e0
           have cc := (pc5 (blk hR k1r'.out)).2.2.1
           simp only [fA, e0] at hK ⊢
           go_wp2
           exact hK _ _ lrR rfl
          ·intro xv W hR hf Q hK hP
           simp only [fA] at hK ⊢
           go_wp2
           exact hK _ _ lrR rfl
          ·intro xv W hR hf Q hK hP
           obtain ⟨e0, e1, e2, e3, e4, e5, -⟩ := hf
           change _ = _ at e2 e3 e4 e5
           replace e0 : IntsN P2 W (xv 3) (movedL p.hs[m].ros (first : Int)) := e0
           replace e1 : IntsN P2 W (xv 7) p.hs[m].rub := e1
           obtain ⟨a0, c0, q0, -⟩ := id e0.1
           obtain ⟨a1, c1, q1, -⟩ := id e1.1
           generalize (movedL p.hs[m].ros (first : Int)).length = n0 at q0
           generalize p.hs[m].rub.length = n1 at q1
           rw [q0] at e0
           rw [q1] at e1
           simp only [fA, e2, e3, e4, e5, q0, q1] at hK ⊢
           clear q0 q1
           go_wp2
           exact hK _ _ lrR ⟨_, _, _, rfl, e0, e1, IntsN.later hIb'.out hR⟩
         ·intro xv W3 hR hf Q' hQ1 _
          obtain ⟨v0, v1, v5, e14, y0, y1, y5⟩ : ProgN P2 W3 (xv 14) ⟨movedL p.hs[m].ros (first : Int), p.hs[m].rub, start, ft, fa, b⟩ := hf 14 (by decide)
          simp only [List.drop_succ_cons, List.drop_zero]
          rw [show List.range 15 = [0, 1, 2, 3, 4, 5, 6, 7, 8, 9, 10, 11, 12, 13, 14] from rfl]
          simp only [fA, e14]
          obtain ⟨a0, c0, q0, -⟩ := id y0.1
          obtain ⟨a1, c1, q1, -⟩ := id y1.1
          obtain ⟨a5, c5, q5, -⟩ := id y5.1
          have hpg : ProgN P2 W3 (xv 14) ⟨movedL p.hs[m].ros (first : Int), p.hs[m].rub, start, ft, fa, b⟩ := ⟨v0, v1, v5, e14, y0, y1, y5⟩
          rw [e14] at hpg
          clear e14 y0 y1 y5 hf
          generalize (movedL p.hs[m].ros (first : Int)).length = n0 at q0
          generalize p.hs[m].rub.length = n1 at q1
          generalize b.length = n5 at q5
          subst q0 q1 q5
          have hk9 := blk hR k2r'.out
          have hbw9 := bel_set (bel_set hbw4'.out hba'.out) hR
          have fg0 := pfrz hk9 0
          have fg1 := pfrz hk9 1
          have fg2 := pfrz hk9 2
          have fg3 := pfrz hk9 3
          have fg4 := pfrz hk9 4
          have fg5 := pfrz hk9 5
          obtain ⟨y0, y1, y2, y3, y4, y5⟩ := pc6 hk9
          obtain ⟨W9, hW9, hb9, k9, hg9⟩ : ∃ V, ((((((W3.setCell ⟨P2, 0, none⟩ (.slice a0 n0 c0)).setCell ⟨P2, 1, none⟩ (.slice a1 n1 c1)).setCell ⟨P2, 2, none⟩ (.int .i64 start)).setCell ⟨P2, 3, none⟩ (.int .i64 ft)).setCell ⟨P2, 4, none⟩ (.int .i64 fa)).setCell ⟨P2, 5, none⟩ (.slice a5 n5 c5)) = V ∧ Below w.heap.size w V ∧ V.heap[P2]? = some (.cells #[.slice a0 n0 c0, .slice a1 n1 c1, .int .i64 start, .int .i64 ft, .int .i64 fa, .slice a5 n5 c5] 38) ∧ IsProg V (.agg #[.slice a0 n0 c0, .slice a1 n1 c1, .int .i64 start, .int .i64 ft, .int .i64 fa, .slice a5 n5 c5]) ⟨movedL p.hs[m].ros (first : Int), p.hs[m].rub, start, ft, fa, b⟩ := ⟨_, rfl, pset6b hbw9 (by omega) _ _ _ _ _ _, pset6 hk9 _ _ _ _ _ _, by obtain ⟨v0, v1, v5, e, p0, p1, p5⟩ := hpg; exact ⟨v0, v1, v5, e, (p0.cells (set6_size _ _ _ _ _ _ _) fun b h => set6_kept _ _ _ _ _ _ _ h).1, (p1.cells (set6_size _ _ _ _ _ _ _) fun b h => set6_kept _ _ _ _ _ _ _ h).1, (p5.cells (set6_size _ _ _ _ _ _ _) fun b h => set6_kept _ _ _ _ _ _ _ h).1⟩⟩
          obtain ⟨d0, d1, d2, d3, d4, d5⟩ := pc6 k9
          have ⟨hR', hpg', hb9', k9', hk9', hbw9', hg9'⟩ := hyd7 hR hpg hb9 k9 hk9 hbw9 hg9
          clear hg9 hbw9 hk9 k9 hb9 hpg hR
          go_wp2
          refine hQ1 _ _ ?_
          clear hQ1
          go_wp2
          exact bodyPost_ret (v := .tuple #[.agg #[.slice a0 n0 c0, .slice a1 n1 c1, .int .i64 start, .int .i64 ft, .int .i64 fa, .slice a5 n5 c5], .int .i64 0]) (by simp [results, Try.results15, go_sem, d0, d1, d2, d3, d4, d5]) rfl ⟨_, by rw [hE6'.out], hb9'.out, by rw [hp0'.out]; exact hg9'.out⟩
--@END20
     ·obtain rfl : first = p.steps := by omega
      have hn9 : ∀ k, 1 ≤ k → k < n + 1 → ∀ j, j < p.steps → bestL L p.steps k (j : Int) = none := fun k h1 h2 j hj => by
       by_cases e : k = n
       ·subst e; exact hfnone.out j hj
       ·exact hnone.out k h1 (by omega) j hj
      have hn9' := hyd1 hn9
      clear hn9
      go_wp2
      go_roundw
      case rel => exact ⟨n + 1, by omega, by omega, by go_num, hbf, hn9'⟩
      case measure => simp [intOf]; omega
   ·obtain rfl : n = 13 := by omega
    have hsn := simple_none hnone.out
    have hE6 : simpE p ⟨(m : Int), ft, fa, fl, fi⟩ start = 6 := by rw [hPR'.out none hsn]; rfl
    have hp0 : simpP p ⟨(m : Int), ft, fa, fl, fi⟩ start = ⟨[], [], 0, 0, 0, []⟩ := by unfold simpP; rw [if_pos hE'.out, hL'.out, hsn]
    have hk9 := blk hbn.out k24'.out
    have hbw9 := bel_set hbw4'.out hbn.out
    obtain ⟨y0, y1, y2, y3, y4, y5⟩ := pc6 hk9
    have fg0 := pfrz hk9 0
    have fg1 := pfrz hk9 1
    have fg2 := pfrz hk9 2
    have fg3 := pfrz hk9 3
    have fg4 := pfrz hk9 4
    have fg5 := pfrz hk9 5
    obtain ⟨W9, hW9, hb9, k9⟩ : ∃ V, ((((((wr.setCell ⟨P2, 0, none⟩ (.slice none 0 0)).setCell ⟨P2, 1, none⟩ (.slice none 0 0)).setCell ⟨P2, 2, none⟩ (.int .i64 0)).setCell ⟨P2, 3, none⟩ (.int .i64 0)).setCell ⟨P2, 4, none⟩ (.int .i64 0)).setCell ⟨P2, 5, none⟩ (.slice none 0 0)) = V ∧ Below w.heap.size w V ∧ V.heap[P2]? = some (.cells #[.slice none 0 0, .slice none 0 0, .int .i64 0, .int .i64 0, .int .i64 0, .slice none 0 0] 38) := ⟨_, rfl, pset6b hbw9 (by omega) _ _ _ _ _ _, pset6 hk9 _ _ _ _ _ _⟩
    obtain ⟨d0, d1, d2, d3, d4, d5⟩ := pc6 k9
    have ⟨hb9', k9', hsn', hE6', hp0', hk9', hbw9'⟩ := hyd7 hb9 k9 hsn hE6 hp0 hk9 hbw9
    clear hbw9 hk9 hp0 hE6 hsn k9 hb9
    go_wp2
    exact bodyPost_ret (v := .tuple #[.agg #[.slice none 0 0, .slice none 0 0, .int .i64 0, .int .i64 0, .int .i64 0, .slice none 0 0], .int .i64 6]) (by simp [results, Try.results15, go_sem, d0, d1, d2, d3, d4, d5]) rfl ⟨_, by rw [hE6'.out], hb9'.out, by rw [hp0'.out]; exact zeroProg _⟩
 ·have hE6 : simpE p ⟨fh, ft, fa, fl, fi⟩ start = E := by unfold simpE; rw [hE'.out, if_neg hE0]
  have hp0 : simpP p ⟨fh, ft, fa, fl, fi⟩ start = ⟨[], [], 0, 0, 0, []⟩ := by unfold simpP; rw [if_neg (by rw [hE'.out]; exact hE0)]
  obtain ⟨y0, y1, y2, y3, y4, y5⟩ := pc6 k23
  have fg0 := pfrz k23 0
  have fg1 := pfrz k23 1
  have fg2 := pfrz k23 2
  have fg3 := pfrz k23 3
  have fg4 := pfrz k23 4
  have fg5 := pfrz k23 5
  obtain ⟨W9, hW9, hb9, k9⟩ : ∃ V, ((((((W3.setCell ⟨P2, 0, none⟩ (.slice none 0 0)).setCell ⟨P2, 1, none⟩ (.slice none 0 0)).setCell ⟨P2, 2, none⟩ (.int .i64 0)).setCell ⟨P2, 3, none⟩ (.int .i64 0)).setCell ⟨P2, 4, none⟩ (.int .i64 0)).setCell ⟨P2, 5, none⟩ (.slice none 0 0)) = V ∧ Below w.heap.size w V ∧ V.heap[P2]? = some (.cells #[.slice none 0 0, .slice none 0 0, .int .i64 0, .int .i64 0, .int .i64 0, .slice none 0 0] 38) := ⟨_, rfl, pset6b hbw3 (by omega) _ _ _ _ _ _, pset6 k23 _ _ _ _ _ _⟩
  obtain ⟨d0, d1, d2, d3, d4, d5⟩ := pc6 k9
  have ⟨hb9', k9', hE6', hp0', hb3', hgL', hbw3', k03'⟩ := hyd8 hb9 k9 hE6 hp0 hb3 hgL hbw3 k03
  have ⟨k13', k23'⟩ := hyd2 k13 k23
  clear k23 k13 k03 hbw3 hgL hb3 hp0 hE6 k9 hb9
  go_wp2
  exact bodyPost_ret (v := .tuple #[.agg #[.slice none 0 0, .slice none 0 0, .int .i64 0, .int .i64 0, .int .i64 0, .slice none 0 0], .int .i64 E]) (by simp [results, Try.results15, go_sem, d0, d1, d2, d3, d4, d5]) rfl ⟨_, by rw [hE6'.out], hb9'.out, by rw [hp0'.out]; exact zeroProg _⟩
end Go.Proofs.Ytkblockodaiigaa
