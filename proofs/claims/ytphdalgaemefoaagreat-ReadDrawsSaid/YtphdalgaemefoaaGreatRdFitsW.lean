/- The reference's Fits. The reference's Fits: the walk. The reference's Simplest. -/
import Derived.Test.YtphdalgaemefoaaGreatRdListR
import Derived.Test.YtphdalgaemefoaaGreatPatCheck
namespace Go.Proofs.YtphdalgaemefoaaGreat
set_option maxRecDepth 100000
open Go.RowKit
set_option linter.unusedVariables false
set_option linter.unusedSimpArgs false
def IsSl (u : Value) : Prop := ∃ A n c, u = .slice A n c
theorem Ints.row {W W' : World} {r v : Value} {xs : List Int} {base e size m : Nat} {ys : List Value} (h : Ints W v xs) (ho : W.ownsRow base e size r m ys) (hall : RowAll IsSl W r) (hg : W.grownBy W' r.ownBlock) : Ints W' v xs := by
 obtain ⟨A, c, hv, h1, h2, hN, h3⟩ := h
 refine ⟨A, c, hv, h1, h2, hN, fun h0 => ?_⟩
 obtain ⟨b, off, ha, hlt, hc⟩ := h3 h0
 have hne : some b ≠ r.ownBlock := fun e => by
  rcases ho.2 with ⟨rfl, -⟩ | ⟨g, cap, cur, rfl, hbg, hgb, -⟩
  ·cases e
  ·have hbg2 : b = g := by simpa [Value.ownBlock] using e
   subst hbg2
   have h4 := hc 0 h0
   simp only [World.cell?, hgb] at h4
   have hm : Value.int .i64 xs[0] ∈ cur.toList := by
    have h6 : cur[off + 0]? = some (Value.int .i64 xs[0]) := by simpa using h4
    have h7 : cur.toList[off + 0]? = some (Value.int .i64 xs[0]) := by simpa using h6
    exact List.mem_of_getElem? h7
   obtain ⟨_, _, _, hz⟩ := hall b cur _ rfl hgb _ hm
   cases hz
 exact ⟨b, off, ha, Nat.lt_of_lt_of_le hlt hg.size, fun j hj => (World.cell?_of_block (hg.block b hlt hne)).trans (hc j hj)⟩
def GrI (W : World) (base : Nat) (vo : Value) (L : List (List Int)) : Prop := ∃ vs : List Value, vs.length = L.length ∧ W.ownsRow base 36 1 vo L.length vs ∧ RowAll IsSl W vo ∧ ∀ i (h1 : i < vs.length) (h2 : i < L.length), Ints W vs[i] L[i]
theorem GrI.nil (W : World) (base : Nat) : GrI W base (.slice none 0 0) [] := ⟨[], rfl, World.ownsRow_nil _ _ _ _, RowAll.nil _ _, fun i h => absurd h (Nat.not_lt_zero i)⟩
theorem GrI.le {W W' : World} {base : Nat} {vo : Value} {L : List (List Int)} (h : GrI W base vo L) (hb : Below W.heap.size W W') : GrI W' base vo L := by
 obtain ⟨vs, h1, h2, h3, h4⟩ := h
 exact ⟨vs, h1, own_below h2 hb, h3.same fun g hg => hb.block g (h2.lt g hg).2, fun i a b => (h4 i a b).below hb⟩
theorem GrI.grid {W : World} {base : Nat} {vo : Value} {L : List (List Int)} (h : GrI W base vo L) : GridL W vo L := by
 obtain ⟨vs, h1, h2, h3, h4⟩ := h
 have h0 := h2
 rcases h2.2 with ⟨rfl, hx⟩ | ⟨g, cap, cur, rfl, hbg, hg, hnc, hcm, hcs, htake⟩
 ·have hn : L = [] := List.eq_nil_of_length_eq_zero hx
  subst hn
  exact ⟨none, 0, rfl, Nat.le_refl _, Nat.zero_le _, fun _ => rfl, fun h => absurd h (Nat.lt_irrefl 0)⟩
 ·refine ⟨some ⟨g, 0, none⟩, cap, rfl, hnc, hcm, fun h => (by cases h), fun _ => ⟨g, 0, rfl, (gsl hg), fun j hj => ⟨vs[j]'(by omega), ?_, h4 j (by omega) hj⟩⟩⟩
  rw [Nat.zero_add, h0.cellAt j (by omega)]
  exact List.getElem?_eq_getElem (by omega)
theorem rowInfo : (Tryz.prog.info? 36).map (fun i => (i.zero, i.size, i.bytes)) = some (some (.slice none 0 0), 1, 24) := by kernel_rfl
theorem wpList_appR (w : World) {ops : Array Oper} {rest : List Oper} {o : Oper} {a : Act} {Q : Exit → Act → World → Prop} (hgd : o.guard = none) (s x : Operand)
  (ho : o.op = .call { callee := .builtin .append, args := #[s, x], argTypes := #[64, 64] })
  (base : Nat) (v : Value) (L : List (List Int)) (hs : a.eval s = v) (hown : GrI w base v L)
  (B : Nat) (A : Option Addr) (c : Nat) (y : List Int) (hx : a.eval x = .slice (some ⟨B, 0, none⟩) 1 1) (hc0 : w.cell? ⟨B, 0, none⟩ = some (.slice A y.length c)) (hy : Ints w (.slice A y.length c) y) (hlen : L.length ≤ 1000000) (hbase : base ≤ w.heap.size)
  (h : ∀ v' w', GrI w' base v' (L ++ [y]) → (∀ n, n ≤ base → Below n w w') → wpList Tryz.prog ops Q rest (a.put o.dst v') w') : wpList Tryz.prog ops Q (o :: rest) a w := by
 obtain ⟨mi, hmi, hz0, hz1, hzb⟩ := info_parts rowInfo
 obtain ⟨vs, h1, h2, h3, h4⟩ := hown
 refine wpList_append_ownC IsSl w hgd s x 64 ho base 36 mi _ 1 24 Tryz.underlying64 hmi hz0 hz1 hzb rfl (by decide) v L.length vs hs h2 ⟨B, 0, none⟩ 1 1 [.slice A y.length c] hx rfl (fun j u hu => ?_) (fun u hu => ?_) (by unfold maxLen; omega) (by omega) hbase (by decide) (fun u hu => ?_) (fun j hj => ?_) h3 ?_
 ·have hj : j < 1 := (List.getElem?_eq_some_iff.1 hu).1
  obtain rfl : j = 0 := by omega
  have hadd : (⟨B, 0, none⟩ : Addr).add 0 = ⟨B, 0, none⟩ := by unfold Addr.add; split <;> simp_all
  rw [hadd, hc0]; simpa using hu
 ·obtain rfl : u = _ := by simpa using hu
  rfl
 ·obtain rfl : u = _ := by simpa using hu
  exact ⟨_, _, _, rfl⟩
 ·obtain rfl : j = 0 := by omega
  exact ⟨none, 0, 0, rfl⟩
 ·intro v' w' g1 g2 g3 g4 g5
  refine h v' w' ⟨vs ++ [.slice A y.length c], by simp [h1], by rw [show (L ++ [y]).length = L.length + 1 by simp]; exact g1, g4, fun i a b => ?_⟩ (fun n hn => Below.grown (Below.refl n w) g2 (by omega) (fun k e => by have := (h2.lt k e).1; omega))
  by_cases hi : i < vs.length
  ·rw [List.getElem_append_left hi, List.getElem_append_left (by omega)]
   exact (h4 i hi (by omega)).row h2 h3 g2
  ·have hi2 : i = vs.length := by simp at a; omega
   subst hi2
   have e1 : (vs ++ [Value.slice A y.length c])[vs.length]'a = .slice A y.length c := by simp
   have e2 : (L ++ [y])[vs.length]'b = y := by rw [List.getElem_append_right (by omega)]; simp [h1]
   rw [e1, e2]
   exact hy.row h2 h3 g2
theorem phases_filter (rds : List Rd) (lift : List Int) (throw adv start cut : Int) : phasesAt rds lift throw adv start cut = ((List.range lift.length).filter fun ph => inB start (startS rds lift throw adv cut ph)).map fun (ph : Nat) => (ph : Int) := rfl
def phasesTo (rds : List Rd) (lift : List Int) (throw adv start cut : Int) (k : Nat) : List Int := ((List.range k).filter fun ph => inB start (startS rds lift throw adv cut ph)).map fun (ph : Nat) => (ph : Int)
theorem phasesTo_succ (rds : List Rd) (lift : List Int) (throw adv start cut : Int) (k : Nat) : phasesTo rds lift throw adv start cut (k + 1) = phasesTo rds lift throw adv start cut k ++ (if inB start (startS rds lift throw adv cut k) then [(k : Int)] else []) := by
 unfold phasesTo
 rw [List.range_succ, List.filter_append, List.map_append]
 congr 1
 by_cases h : inB start (startS rds lift throw adv cut k) = true
 ·simp [h]
 ·simp [h]
theorem phasesTo_length (rds : List Rd) (lift : List Int) (throw adv start cut : Int) (k : Nat) : (phasesTo rds lift throw adv start cut k).length ≤ k := by
 unfold phasesTo
 rw [List.length_map]
 exact Nat.le_trans (List.length_filter_le _ _) (by simp)
def fitsTo (p : Pic) (lift : List Int) (f : Fnd) (start : Int) (k : Nat) : List (List Int) := (List.range k).map fun (c : Nat) => phasesAt p.rds lift f.throw f.adv start (c : Int)
theorem fitsTo_succ (p : Pic) (lift : List Int) (f : Fnd) (start : Int) (k : Nat) : fitsTo p lift f start (k + 1) = fitsTo p lift f start k ++ [phasesAt p.rds lift f.throw f.adv start (k : Int)] := by
 unfold fitsTo; rw [List.range_succ, List.map_append]; rfl
theorem fitsTo_length (p : Pic) (lift : List Int) (f : Fnd) (start : Int) (k : Nat) : (fitsTo p lift f start k).length = k := by unfold fitsTo; simp
theorem fits_bad {p : Pic} {f : Fnd} {start : Int} (hp : picB p = true) (ha : argB p f start = true) {k : Nat} (hk : k ≤ (lastC p.rds).toNat) (h : phasesAt p.rds (p.lift f.head.toNat) f.throw f.adv start (k : Int) = []) : fitsE p f start = 6 := by
 unfold fitsE
 rw [hp, ha]
 have : (fitsL p f start).any (fun l => l.isEmpty) = true := by
  rw [List.any_eq_true]
  exact ⟨_, List.mem_map.2 ⟨k, List.mem_range.2 (by omega), rfl⟩, by rw [h]; rfl⟩
 rw [if_pos rfl, if_pos rfl, if_pos this]
theorem fits_good {p : Pic} {f : Fnd} {start : Int} (hp : picB p = true) (ha : argB p f start = true) (h : ∀ k : Nat, k ≤ (lastC p.rds).toNat → phasesAt p.rds (p.lift f.head.toNat) f.throw f.adv start (k : Int) ≠ []) : fitsE p f start = 0 ∧ fitsV p f start = fitsTo p (p.lift f.head.toNat) f start ((lastC p.rds).toNat + 1) := by
 have hE : fitsE p f start = 0 := by
  unfold fitsE
  rw [hp, ha]
  have : (fitsL p f start).any (fun l => l.isEmpty) = false := by
   rw [List.any_eq_false]
   intro l hl
   obtain ⟨k, hk, rfl⟩ := List.mem_map.1 hl
   have := h k (by have := List.mem_range.1 hk; omega)
   simpa using this
  rw [if_pos rfl, if_pos rfl, if_neg (by rw [this]; decide)]
 exact ⟨hE, by unfold fitsV; rw [if_pos hE]; rfl⟩
end Go.Proofs.YtphdalgaemefoaaGreat
namespace Go.Proofs.YtphdalgaemefoaaGreat
set_option maxRecDepth 100000
open Go.RowKit
set_option linter.unusedVariables false
set_option linter.unusedSimpArgs false
def fndV (f : Fnd) : Value := .agg #[.int .i64 f.head, .int .i64 f.throw, .int .i64 f.adv, .int .i64 f.lo, .int .i64 f.hi]
def Fnd.Fit (f : Fnd) : Prop := fit64 f.head ∧ fit64 f.throw ∧ fit64 f.adv ∧ fit64 f.lo ∧ fit64 f.hi
theorem GridL.nil (w : World) : GridL w (.slice none 0 0) [] := ⟨none, 0, rfl, Nat.le_refl _, Nat.zero_le _, fun _ => rfl, fun h => absurd h (Nat.lt_irrefl 0)⟩
theorem argB_eq (p : Pic) (f : Fnd) (start : Int) : argB p f start = (within f.head 0 ((p.hs.length : Int) - 1) && (within f.throw p.tl p.th && (within f.adv p.al p.ah && (within start f.lo f.hi && within start 0 10000)))) := rfl
theorem fitsV_no {p : Pic} {f : Fnd} {start : Int} (h : fitsE p f start ≠ 0) : fitsV p f start = [] := if_neg h
end Go.Proofs.YtphdalgaemefoaaGreat
namespace Go.Proofs.YtphdalgaemefoaaGreat
set_option maxRecDepth 100000
open Go.RowKit
set_option linter.unusedVariables false
set_option linter.unusedSimpArgs false
def bestTo (L : List (List Int)) (steps n : Nat) (first : Int) (k : Nat) : Option (List Int) := (List.range k).foldl (fun b (all : Nat) => betterL b (listedL L steps n first (all : Int))) none
theorem bestTo_succ (L : List (List Int)) (steps n : Nat) (first : Int) (k : Nat) : bestTo L steps n first (k + 1) = betterL (bestTo L steps n first k) (listedL L steps n first (k : Int)) := by
 unfold bestTo; rw [List.range_succ, List.foldl_append]; rfl
theorem bestTo_length {L : List (List Int)} {steps n : Nat} {first : Int} (hn : 0 < n) : ∀ (k : Nat) (l : List Int), bestTo L steps n first k = some l → l.length = n
 | 0, l, h => by cases h
 | k + 1, l, h => by
  rw [bestTo_succ] at h
  unfold betterL at h
  split at h
  ·exact bestTo_length hn k l h
  ·rename_i x hx _
   injection h with h
   rw [← h]; exact listedL_length hn hx
  ·rename_i x b hx hb
   split at h
   ·injection h with h
    rw [← h]; exact listedL_length hn hx
   ·injection h with h
    rw [← h]; exact bestTo_length hn k b hb
theorem bestL_eq (L : List (List Int)) (steps n : Nat) (first : Int) : bestL L steps n first = bestTo L steps n first steps := rfl
theorem firstSome_none {α : Type} {f : Nat → Option α} : ∀ {l : List Nat}, (∀ k ∈ l, f k = none) → firstSome f l = none
 | [], _ => rfl
 | k :: l, h => by
  unfold firstSome
  rw [h k List.mem_cons_self]
  exact firstSome_none fun q hq => h q (List.mem_cons_of_mem _ hq)
theorem firstSome_append {α : Type} {f : Nat → Option α} : ∀ {l m : List Nat}, (∀ k ∈ l, f k = none) → firstSome f (l ++ m) = firstSome f m
 | [], _, _ => rfl
 | k :: l, m, h => by
  show firstSome f (k :: (l ++ m)) = _
  unfold firstSome
  rw [h k List.mem_cons_self]
  exact (firstSome_append fun q hq => h q (List.mem_cons_of_mem _ hq)).trans (by cases m <;> rfl)
theorem firstSome_range {α : Type} {f : Nat → Option α} {n k : Nat} {x : α} (hk : k < n) (hx : f k = some x) (h : ∀ j, j < k → f j = none) : firstSome f (List.range n) = some x := by
 have e : List.range n = List.range k ++ (List.range (n - k)).map (k + ·) := by
  rw [← List.range_add]; congr 1; omega
 rw [e, firstSome_append fun j hj => h j (List.mem_range.1 hj)]
 obtain ⟨d, hd⟩ : ∃ d, n - k = d + 1 := ⟨n - k - 1, by omega⟩
 rw [hd, List.range_succ_eq_map, List.map_cons]
 unfold firstSome
 rw [Nat.add_zero, hx]
theorem simple_some {L : List (List Int)} {steps n first : Nat} {l : List Int} (hn : 1 ≤ n) (hn2 : n ≤ 12) (hf : first < steps) (hb : bestL L steps n (first : Int) = some l) (h1 : ∀ k, 1 ≤ k → k < n → ∀ j, j < steps → bestL L steps k (j : Int) = none) (h2 : ∀ j, j < first → bestL L steps n (j : Int) = none) : simpleL L steps = some (first, l) := by
 unfold simpleL
 refine firstSome_range (k := n - 1) (by omega) ?_ fun k hk => ?_
 ·rw [show n - 1 + 1 = n by omega]
  exact firstSome_range hf (by rw [hb]; rfl) fun j hj => by rw [h2 j hj]; rfl
 ·exact firstSome_none fun j hj => by rw [h1 (k + 1) (by omega) (by omega) j (List.mem_range.1 hj)]; rfl
theorem simple_none {L : List (List Int)} {steps : Nat} (h1 : ∀ k, 1 ≤ k → k < 13 → ∀ j, j < steps → bestL L steps k (j : Int) = none) : simpleL L steps = none := by
 unfold simpleL
 exact firstSome_none fun k hk => firstSome_none fun j hj => by rw [h1 (k + 1) (by omega) (by have := List.mem_range.1 hk; omega) j (List.mem_range.1 hj)]; rfl
def simpE (p : Pic) (f : Fnd) (start : Int) : Int := if fitsE p f start = 0 then (if simpleL (fitsV p f start) p.steps = none then 6 else 0) else fitsE p f start
def simpP (p : Pic) (f : Fnd) (start : Int) : Prog := if fitsE p f start = 0 then (match simpleL (fitsV p f start) p.steps with
 | some (first, l) => ⟨movedL (p.hs.getD f.head.toNat default).ros (first : Int), (p.hs.getD f.head.toNat default).rub, start, f.throw, f.adv, l⟩
 | none => ⟨[], [], 0, 0, 0, []⟩) else ⟨[], [], 0, 0, 0, []⟩
theorem zeroProg (w : World) : IsProg w (.agg #[.slice none 0 0, .slice none 0 0, .int .i64 0, .int .i64 0, .int .i64 0, .slice none 0 0]) ⟨[], [], 0, 0, 0, []⟩ := ⟨_, _, _, rfl, Arr.nil _ _, Arr.nil _ _, Arr.nil _ _⟩
end Go.Proofs.YtphdalgaemefoaaGreat
