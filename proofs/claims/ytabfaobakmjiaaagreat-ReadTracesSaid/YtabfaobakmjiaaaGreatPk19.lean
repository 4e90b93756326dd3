/- exact: fractions that are arguments: what they are; in. The reference: groups. reference 1: In. -/
import Derived.Test.YtabfaobakmjiaaaGreatPk18
import Derived.Test.YtabfaobakmjiaaaGreatPk17
namespace Go.Proofs.YtabfaobakmjiaaaGreat
set_option maxRecDepth 100000
set_option maxHeartbeats 4000000
open Go.RowKit Go.Shelf
set_option linter.unusedVariables false
set_option linter.unusedSimpArgs false
structure FracA where
 sn : Bool
 gn : List Nat
 sd : Bool
 gd : List Nat
def FracA.ok (x : FracA) : Bool := isW x.sn x.gn && isW x.sd x.gd && !x.sd && decide (0 < x.gd.length)
open Classical in
noncomputable def FracA.rat? (x : FracA) : Option Rat := if x.ok = true ∧ Nat.gcd (nv x.gn) (nv x.gd) = 1 then some (mkR x.sn (nv x.gn) (nv x.gd)) else none
def IsFracA (L : Nat → Prop) (w : World) (v : Value) (x : FracA) : Prop := ∃ A c B d, v = .agg #[.bool x.sn, .slice A x.gn.length c, .bool x.sd, .slice B x.gd.length d] ∧ ArrL L (gv .u32) w (.slice A x.gn.length c) x.gn ∧ ArrL L (gv .u32) w (.slice B x.gd.length d) x.gd
theorem IsFracA.le {L : Nat → Prop} {w W : World} {v : Value} {x : FracA} (h : IsFracA L w v x) (hb : Le w W) : IsFracA L W v x := by
 obtain ⟨A, c, B, d, e, h1, h2⟩ := h;exact ⟨A, c, B, d, e, h1.le hb, h2.le hb⟩
theorem IsFracA.mono {L L2 : Nat → Prop} {w : World} {v : Value} {x : FracA} (h : IsFracA L w v x) (hL : ∀ b, L b → L2 b) : IsFracA L2 w v x := by
 obtain ⟨A, c, B, d, e, h1, h2⟩ := h;exact ⟨A, c, B, d, e, h1.mono hL, h2.mono hL⟩
theorem qCY {s : Bool} {g : List Nat} (h : isW s g = true) : Norm g ∧ g.length ≤ 40 ∧ (nv g = 0 → s = false) := by
 unfold isW at h;simp only [Bool.and_eq_true, decide_eq_true_eq, Bool.not_eq_true'] at h;obtain ⟨⟨h1, h2⟩, h3⟩ := h;have hB := qAS
 have hlow : Low g := fun x hx => by
  rw [hB];have := List.any_eq_false.1 h2 x hx;simpa using this
 have hlast : g.getLast? ≠ some 0 := by
  by_cases h0 : g.length = 0
  ·have : g = [] := List.eq_nil_of_length_eq_zero h0;subst this; simp
  ·rw [if_neg h0] at h3;rw [List.getLast?_eq_getElem?];intro e;rw [List.getD_eq_getElem?_getD, e] at h3;simp at h3
 refine ⟨⟨hlow, hlast⟩, h1, fun hz => ?_⟩
 by_cases h0 : g.length = 0
 ·rw [if_pos h0] at h3;simpa using h3
 ·have := qGE hlast (fun e => h0 (by rw [e]; rfl));omega
theorem qEU {s : Bool} {g : List Nat} (h : isW s g = true) : dg (nv g) = g := qEZ (qCY h).1
structure FracA.Val (x : FracA) (r : Rat) : Prop where
 neg : rneg r = x.sn
 num : dg (rnum r) = x.gn
 den : dg r.den = x.gd
 pos : x.sd = false
 wn : isW x.sn x.gn = true
 wd : isW false x.gd = true
 sz : Rsz r 40
theorem FracA.val {x : FracA} {r : Rat} (h : x.rat? = some r) : x.Val r := by
 unfold FracA.rat? at h
 split at h
 ·rename_i hc;injection h with h;subst h;obtain ⟨hok, hg⟩ := hc;unfold FracA.ok at hok;simp only [Bool.and_eq_true, decide_eq_true_eq, Bool.not_eq_true'] at hok;obtain ⟨⟨⟨h1, h2⟩, h3⟩, h4⟩ := hok;obtain ⟨n1, n2, n3⟩ := qCY h1;obtain ⟨d1, d2, d3⟩ := qCY h2;have hd : nv x.gd ≠ 0 := Nat.ne_of_gt (qGE d1.2 (fun e => by rw [e] at h4; simp at h4))
  have e1 : rneg (mkR x.sn (nv x.gn) (nv x.gd)) = x.sn := by
   rw [qFO _ _ _ hd]
   by_cases hz : nv x.gn = 0
   ·rw [n3 hz]; rfl
   ·rw [show decide (0 < nv x.gn) = true by simp; omega, Bool.and_true]
  have e2 : rnum (mkR x.sn (nv x.gn) (nv x.gd)) = nv x.gn := by rw [qDj _ _ _ hd, hg, Nat.div_one]
  have e3 : (mkR x.sn (nv x.gn) (nv x.gd)).den = nv x.gd := by rw [qEO _ _ _ hd, hg, Nat.div_one]
  refine ⟨e1, by rw [e2, qEZ n1], by rw [e3, qEZ d1], h3, h1, by rw [h3] at h2; exact h2, ?_, ?_⟩
  ·rw [e2, qEZ n1]; exact n2
  ·rw [e3, qEZ d1]; exact d2
 ·cases h
theorem FracA.bad {x : FracA} (h : x.rat? = none) : x.ok = false ∨ (isW x.sn x.gn = true ∧ isW false x.gd = true ∧ x.sd = false ∧ nv x.gd ≠ 0 ∧ Nat.gcd (nv x.gn) (nv x.gd) ≠ 1) := by
 unfold FracA.rat? at h
 split at h
 ·cases h
 ·rename_i hc
  cases hok : x.ok with
  | false => exact .inl rfl
  | true =>
   have h5 := hok;unfold FracA.ok at h5;simp only [Bool.and_eq_true, decide_eq_true_eq, Bool.not_eq_true'] at h5;obtain ⟨⟨⟨h1, h2⟩, h3⟩, h4⟩ := h5;obtain ⟨d1, d2, d3⟩ := qCY h2;refine .inr ⟨h1, by rw [h3] at h2; exact h2, h3, Nat.ne_of_gt (qGE d1.2 (fun e => by rw [e] at h4; simp at h4)), fun hg => hc ⟨hok, hg⟩⟩
theorem qBq (L : Nat → Prop) (x : FracA) (r : Rat) (v : Value) (w : World) (hL : Up w L) (h : IsFracA L w v x) (hr : x.rat? = some r) :
  Calls Tryz.prog 137 #[v] w fun e w' => ∃ v', e = .returned v' ∧ Le w w' ∧ RatL L .u32 w' v' r := by
 obtain ⟨A, c, B, d, rfl, h1, h2⟩ := h;have V := FracA.val hr;have k := qLM L r (.slice A x.gn.length c) (.slice B x.gd.length d) w hL (by unfold NumL; rw [V.num]; exact h1) (by unfold NumL; rw [V.den]; exact h2) (by rw [V.neg, V.num]; exact V.wn) (by rw [V.den]; exact V.wd) V.sz;rw [V.neg] at k;rw [V.pos];exact k
theorem qE9 (L : Nat → Prop) (x : FracA) (v : Value) (w : World) (hL : Up w L) (h : IsFracA L w v x) (hr : x.rat? = none) :
  Calls Tryz.prog 137 #[v] w fun e w' => e = .panicked [{ v := .iface 223 (.agg #[.int .i64 10]), recovered := false }] ∧ Le w w' := by
 obtain ⟨A, c, B, d, rfl, h1, h2⟩ := h
 rcases FracA.bad hr with hb | ⟨b1, b2, b3, b4, b5⟩
 ·exact qLN L x.sn x.sd x.gn x.gd _ _ w hL h1 h2 hb
 ·rw [b3];have e1 := qEU b1;have e2 := qEU b2;exact qK7 L x.sn (nv x.gn) (nv x.gd) _ _ w hL (by unfold NumL; rw [e1]; exact h1) (by unfold NumL; rw [e2]; exact h2) b4 (by rw [e1]; exact b1) (by rw [e2]; exact b2) (by rw [e1]; exact (qCY b1).2.1) (by rw [e2]; exact (qCY b2).2.1) b5
def qGx (g : List Nat) (k : Nat) : Prop := ∀ j, j < k → g.getD j 0 < 1000000000
def qJs (L : Nat → Prop) (s : Bool) (g : List Nat) (w : World) (e : Ending) (w' : World) : Prop := Le w w' ∧ ((isW s g = true ∧ ∃ v', e = .returned (.tuple #[v', .bool true]) ∧ NumL L .i64 w' v' (nv g)) ∨ (isW s g = false ∧ e = .returned (.tuple #[.slice none 0 0, .bool false])))
theorem qJK {g : List Nat} (h : qGx g g.length) : (g.any fun x => decide (1000000000 ≤ x)) = false := by
 rw [List.any_eq_false];intro x hx;obtain ⟨i, hi, rfl⟩ := List.getElem_of_mem hx;have := h i hi;rw [qA7 hi] at this;simpa using this
theorem qF1 (L L2 : Nat → Prop) (s : Bool) (g : List Nat) (A : Option Addr) (c : Nat) (w : World) (hL : Up w L) (hg : ArrL L2 (gv .u32) w (.slice A g.length c) g) :
  Calls Tryz.prog 206 #[.agg #[.bool s, .slice A g.length c]] w (qJs L s g w) := by
 obtain ⟨A, c, hv, g1, g2, gN, g3⟩ := hg;injection hv with q1 q2 q3;subst q1 q3;unfold maxLen at g2
 by_cases hl : 40 < g.length
 ·have hl2 : 40 < (g.length : Int) := by omega
  have hw : isW s g = false := by unfold isW; rw [decide_eq_false (by omega), Bool.false_and, Bool.false_and]
  have hres : Le w (w.alloc (.cells #[.bool s, .slice A g.length c] 74)) := qAA _ _;have ⟨hw', g3', gN', hres', hL'⟩ := hyd5 hw g3 gN hres hL;clear hL hres gN g3 hw;go_enter Tryz.func206, Tryz.ntmps206;go_wp2;go_ret2;exact ⟨hres'.out, .inr ⟨hw'.out, rfl⟩⟩
 ·have hl2 : ¬ 40 < (g.length : Int) := by omega
  have ⟨hL', g3', gN'⟩ := hyd3 hL g3 gN;clear gN g3 hL;go_enter Tryz.func206, Tryz.ntmps206;go_wp2;obtain ⟨W0, hW0, hle, hbx⟩ := al1 w (.cells #[.bool s, .slice A g.length c] 74);rw [hW0];have ⟨hW0', hle', hbx'⟩ := hyd3 hW0 hle hbx;clear hbx hle hW0;go_loopw [4, 5] (fun o i wr => ∃ (k : Nat) (ov : List Nat), k ≤ g.length ∧ i = .int .i64 k ∧ ov.length = k ∧ Hid (ov = g.take k) ∧ Hid (qGx g k) ∧ Hid (Below W0.heap.size W0 wr) ∧ Hid (wr.ownsRow W0.heap.size 3 1 o ov.length (ov.map (gv .i64)))) (fun _ i _ => g.length - (intOf i).toNat)
  case atStart => exact ⟨0, [], Nat.zero_le _, rfl, rfl, Lib.hid (by simp), Lib.hid (fun j hj => by omega), Lib.hid (Below.refl _ _), Lib.hid (World.ownsRow_nil _ _ _ _)⟩
  case round =>
   obtain ⟨k, ov, hk, rfl, hlen, hov, hta, hbl, hown⟩ := hrel;have hbx2 := (Below.block hbl.out w.heap.size (gsl hbx'.out)).trans hbx'.out;have a0 := cell_of_row _ _ 0 _ _ (0, 0) hbx2;have a1 := cell_of_row _ _ 1 _ _ (0, 0) hbx2;replace a0 : wr.cell? ⟨w.heap.size, 0, none⟩ = some (.bool s) := a0;replace a1 : wr.cell? ⟨w.heap.size, 1, none⟩ = some (.slice A g.length c) := a1;have hz : W0.heap.size ≤ wr.heap.size := hbl.out.size;have hbx2' := hyd1 hbx2;clear hbx2
   by_cases hlt : k < g.length
   ·obtain ⟨b, off, rfl, -, hbw, hc⟩ := g3'.out (by omega);have hck := (Below.cell (hle'.out.trans hbl.out) (p := ⟨b, off + k, none⟩) hbw).trans (hc k hlt);obtain ⟨x, hx⟩ : ∃ x, g[k] = x := ⟨_, rfl⟩;have hxD : g.getD k 0 = x := by rw [qA7 hlt, hx]
    rw [hx] at hck;unfold gv at hck;clear hc
    by_cases hbig : 1000000000 ≤ x
    ·have hw : isW s g = false := by
      unfold isW
      have : (g.any fun x => decide (1000000000 ≤ x)) = true := by
       rw [List.any_eq_true];exact ⟨x, by rw [← hx]; exact List.getElem_mem _, by simpa using hbig⟩
      rw [this, Bool.not_true, Bool.and_false, Bool.false_and]
     have hb2 : (1000000000 : Int) ≤ (x : Int) := by omega
     have ⟨hw', hx', hxD'⟩ := hyd3 hw hx hxD;clear hxD hx hw;go_wp2;go_ret2;exact ⟨hle'.out.trans hbl.out, .inr ⟨hw'.out, rfl⟩⟩
    ·have hb2 : ¬ (1000000000 : Int) ≤ (x : Int) := by omega
     have hov2 : Hid (ov ++ [x] = g.take (k + 1)) := Lib.hid (by rw [hov.out, List.take_succ_eq_append_getElem hlt, hx])
     have hta2 : Hid (qGx g (k + 1)) := Lib.hid (fun j hj => by
      by_cases hjk : j = k
      ·subst hjk; rw [hxD]; omega
      ·exact hta.out j (by omega))
     have hx9 : (x : Int) ≤ 999999999 := by omega
     have ⟨hx', hxD'⟩ := hyd2 hx hxD;clear hxD hx;go_wp2_with (at_builtin; go_must (refine qAY rfl (.tmp 24) (.tmp 31) 56 rfl W0.heap.size 3 .i64 8 qCR (by decide) _ ov rfl (hown.out.alloc _) _ [x] rfl (qBR _ _ _ _) (by simp; omega) (by simp; omega) ?_); intro v' w' r1 r2 r3 r4);have hbn : Hid (Below W0.heap.size W0 w') := Lib.hid ((hbl.out.alloc (by omega) _).trans r2);have ⟨r1', r2', r3', r4'⟩ := hyd4 r1 r2 r3 r4;clear r4 r3 r2 r1;go_wp2;go_roundw
     case rel => exact ⟨k + 1, ov ++ [x], by omega, by go_num, by simp; omega, hov2, hta2, hbn, r1'⟩
     case measure => simp [intOf]; omega
   ·obtain rfl : k = g.length := by omega
    have hovg : ov = g := by rw [hov.out, List.take_length]
    have hany := qJK hta.out;have hle9 := hle'.out.trans hbl.out;subst hovg;have hn : ArrL L (gv .i64) wr _ ov := ArrL.of_own hown.out (fun b hb => hL'.out b (Nat.le_trans hle'.out.size hb));clear hov hta;have ⟨hn', hle9', hany'⟩ := hyd3 hn hle9 hany;clear hany hle9 hn
    by_cases h0 : ov.length = 0
    ·have hw : isW s ov = !s := qJZ (by omega) hany'.out h0;obtain ⟨Ao, co, eo, -⟩ := hn'.out;subst eo;obtain rfl : ov = [] := List.eq_nil_of_length_eq_zero h0;clear h0
     cases s
     ·have hw' := hyd1 hw;clear hw;go_wp2;go_ret2;exact ⟨hle9'.out, .inl ⟨hw'.out, _, rfl, by unfold NumL; rw [qEU hw'.out]; exact hn'.out⟩⟩
     ·have hw' := hyd1 hw;clear hw;go_wp2;go_ret2;exact ⟨hle9'.out, .inr ⟨hw'.out, rfl⟩⟩
    ·obtain ⟨m, hm⟩ : ∃ m, ov.length = m + 1 := ⟨ov.length - 1, by omega⟩;obtain ⟨x, hx⟩ : ∃ x, ov.getD m 0 = x := ⟨_, rfl⟩;have hw : isW s ov = decide (0 < x) := qIX (by omega) hany'.out h0 (by rw [show ov.length - 1 = m by omega]; exact hx);obtain ⟨G, C, eG, -, -, -, -⟩ := qCp hown.out (by omega);subst eG;have hck := qBL hown.out rfl (k := m) (x := x) (by rw [List.getElem?_eq_getElem (by omega), ← hx, qA7 (by omega)]);unfold gv at hck;have hmi : (ov.length : Int) - 1 = (m : Int) := by omega
     have h2 : 0 < (ov.length : Int) := by omega
     have h3 : ¬ (ov.length : Int) = 0 := by omega
     have h4 : m < ov.length := by omega
     have h5 : ((ov.length : Int) == 0) = false := beq_eq_false_iff_ne.2 (by omega)
     by_cases hx0 : x = 0
     ·subst hx0;have ⟨hw', hx', hm', hown', hbl'⟩ := hyd5 hw hx hm hown hbl;clear hbl hown hm hx hw;go_wp2;go_ret2;exact ⟨hle9'.out, .inr ⟨hw'.out, rfl⟩⟩
     ·have h6 : ((x : Int) == 0) = false := beq_eq_false_iff_ne.2 (by omega);have h7 : ¬ (x : Int) = 0 := by omega
      have hw2 : isW s ov = true := by rw [hw]; simpa using Nat.pos_of_ne_zero hx0
      have ⟨hw', hw2', hx', hm', hown', hbl'⟩ := hyd6 hw hw2 hx hm hown hbl;clear hbl hown hm hx hw2 hw;go_wp2;go_ret2;exact ⟨hle9'.out, .inl ⟨hw2'.out, _, rfl, by unfold NumL; rw [qEU hw2'.out]; exact hn'.out⟩⟩
end Go.Proofs.YtabfaobakmjiaaaGreat
namespace Go.Proofs.YtabfaobakmjiaaaGreat
set_option maxRecDepth 100000
set_option maxHeartbeats 4000000
open Go.RowKit Go.Shelf
set_option linter.unusedVariables false
set_option linter.unusedSimpArgs false
def qC8 : Value := .agg #[.bool false, .slice none 0 0, .slice none 0 0]
def InPost (L : Nat → Prop) (x : FracA) (w : World) (e : Ending) (w' : World) : Prop := Le w w' ∧ ((∃ r, x.rat? = some r ∧ ∃ v, e = .returned (.tuple #[v, .bool true]) ∧ RatL L .i64 w' v r) ∨ (x.rat? = none ∧ e = .returned (.tuple #[qC8, .bool false])))
theorem FracA.not_ok {x : FracA} (h : x.ok = false) : x.rat? = none := by
 unfold FracA.rat?;rw [if_neg (by rw [h]; simp)]
theorem FracA.not_gcd {x : FracA} (h : Nat.gcd (nv x.gn) (nv x.gd) ≠ 1) : x.rat? = none := by
 unfold FracA.rat?;rw [if_neg fun hh => h hh.2]
theorem FracA.is_rat {x : FracA} (h1 : isW x.sn x.gn = true) (h2 : isW x.sd x.gd = true) (h3 : x.sd = false) (h4 : x.gd.length ≠ 0) (hg : Nat.gcd (nv x.gn) (nv x.gd) = 1) : ∃ r, x.rat? = some r := by
 refine ⟨mkR x.sn (nv x.gn) (nv x.gd), ?_⟩;unfold FracA.rat?;rw [if_pos ⟨by unfold FracA.ok; rw [h1, h2, h3]; simp; omega, hg⟩]
theorem qGy (L L2 : Nat → Prop) (x : FracA) (v : Value) (w : World) (hL : Up w L) (h : IsFracA L2 w v x) :
  Calls Tryz.prog 173 #[v] w (InPost L x w) := by
 obtain ⟨A, c, B, d, rfl, h1, h2⟩ := h;have ⟨h1', h2', hL'⟩ := hyd3 h1 h2 hL;clear hL h2 h1;go_enter Tryz.func173, Tryz.ntmps173;go_wp2_with (fail);go_at_call 206;refine (qF1 L L2 x.sn x.gn A c _ (hL'.out.le ((qAA _ _).trans (qAA _ _))) (h1'.out.le ((qAA _ _).trans (qAA _ _)))).mono ?_;rintro e W ⟨hle, hc1⟩;obtain ⟨hle1, hbx, hbq⟩ := qBC hle;have hlt0 := (gsl hbx);have hlt1 := (gsl hbq);obtain ⟨a0, a1, a2, a3⟩ := qA3 hbx
 have hres1 : ∃ v1 b1, e = .returned (.tuple #[v1, .bool b1]) ∧ isW x.sn x.gn = b1 ∧ (b1 = true → NumL L .i64 W v1 (nv x.gn)) ∧ ∃ A c m, v1 = .slice A m c := by
  rcases hc1 with ⟨k1, v1, rfl, k2⟩ | ⟨k1, rfl⟩
  ·obtain ⟨A9, c9, e9⟩ := k2.slice;exact ⟨v1, true, rfl, k1, fun _ => k2, A9, c9, _, e9⟩
  ·exact ⟨_, false, rfl, k1, ⟨nofun, none, 0, 0, rfl⟩⟩
 obtain ⟨v1, b1, rfl, hw1, hn1, A1, c1, m1, rfl⟩ := hres1;clear hc1;have h2W := h2'.out.le hle1;have hUW := hL'.out.le hle1;have ⟨hle', hle1', hbx', hbq', hw1', hn1', h2W', hUW'⟩ := hyd8 hle hle1 hbx hbq hw1 hn1 h2W hUW;clear hUW h2W hn1 hw1 hbq hbx hle1 hle;go_wp2_with (fail);go_at_call 206;refine (qF1 L L2 x.sd x.gd B d _ hUW'.out h2W'.out).mono ?_;rintro e W2 ⟨hle2, hc2⟩
 have hres2 : ∃ v2 b2, e = .returned (.tuple #[v2, .bool b2]) ∧ isW x.sd x.gd = b2 ∧ (b2 = true → NumL L .i64 W2 v2 (nv x.gd)) ∧ ∃ A c m, v2 = .slice A m c := by
  rcases hc2 with ⟨k1, v1, rfl, k2⟩ | ⟨k1, rfl⟩
  ·obtain ⟨A9, c9, e9⟩ := k2.slice;exact ⟨v1, true, rfl, k1, fun _ => k2, A9, c9, _, e9⟩
  ·exact ⟨_, false, rfl, k1, ⟨nofun, none, 0, 0, rfl⟩⟩
 obtain ⟨v2, b2, rfl, hw2, hn2, A2, c2, m2, rfl⟩ := hres2;have hbx2 := (Below.block hle2 _ hlt0).trans hbx'.out;have hbq2 := (Below.block hle2 _ hlt1).trans hbq'.out;have hle3 := hle1'.out.trans hle2;have hUW2 := hL'.out.le hle3;have hn12 : b1 = true → NumL L .i64 W2 (.slice A1 m1 c1) (nv x.gn) := fun h => (hn1'.out h).le hle2;clear a0 a1 a2 a3 hc2 hn1' hUW' h2W' hle1' hbx' hbq' hle' h1' h2';obtain ⟨a0, a1, a2, a3⟩ := qA3 hbx2;obtain ⟨z0, z1, z2, g0, g1, g2⟩ := qAD hbq2;have hsz2 := Below.size hle2;have hbad : x.rat? = none → InPost L x w (.returned (.tuple #[qC8, .bool false])) W2 := fun h => ⟨hle3, .inr ⟨h, rfl⟩⟩;have ⟨hle2', hbx2', hbq2', hle3', hUW2', hw2', hn2', hn12'⟩ := hyd8 hle2 hbx2 hbq2 hle3 hUW2 hw2 hn2 hn12;have hbad' := hyd1 hbad;clear hbad hn12 hn2 hw2 hUW2 hle3 hbq2 hbx2 hle2;have hb9 := fun u0 u1 u2 => qAD (qA0 (u0 := u0) (u1 := u1) (u2 := u2) hbq2'.out);have hle9 := fun u0 u1 u2 => qAg (u0 := u0) (u1 := u1) (u2 := u2) hle3'.out (show w.heap.size ≤ w.heap.size + 1 by omega);have ⟨hb9', hle9'⟩ := hyd2 hb9 hle9;clear hle9 hb9;clear hbad'
 cases b1 with
 | false =>
  have hno : x.rat? = none := FracA.not_ok (by unfold FracA.ok; rw [hw1'.out]; simp);have hno' := hyd1 hno;clear hno
  cases b2
  all_goals
   go_wp2;obtain ⟨d0, d1, d2, -⟩ := hb9'.out (.bool false) (.slice none 0 0) (.slice none 0 0);exact bodyPost_ret (v := .tuple #[qC8, .bool false]) (by simp [results, Tryz.results173, go_sem, d0, d1, d2, qC8]) rfl ⟨hle9'.out _ _ _, .inr ⟨hno'.out, rfl⟩⟩
 | true =>
  have hn1 := hn12'.out rfl;have em : m1 = (dg (nv x.gn)).length := ArrL.len hn1
  cases b2 with
  | false =>
   have hno : x.rat? = none := FracA.not_ok (by unfold FracA.ok; rw [hw2'.out]; simp);have ⟨hno', hn1', em'⟩ := hyd3 hno hn1 em;clear em hn1 hno;go_wp2;obtain ⟨d0, d1, d2, -⟩ := hb9'.out (.bool false) (.slice none 0 0) (.slice none 0 0);exact bodyPost_ret (v := .tuple #[qC8, .bool false]) (by simp [results, Tryz.results173, go_sem, d0, d1, d2, qC8]) rfl ⟨hle9'.out _ _ _, .inr ⟨hno'.out, rfl⟩⟩
  | true =>
   have hn2 := hn2'.out rfl;have em2 : m2 = (dg (nv x.gd)).length := ArrL.len hn2;have eg : (dg (nv x.gn)) = x.gn := qEU hw1'.out;have eg2 : (dg (nv x.gd)) = x.gd := qEU hw2'.out;have l1 : (dg (nv x.gn)).length ≤ 40 := by rw [eg]; exact (qCY hw1'.out).2.1
   have l2 : (dg (nv x.gd)).length ≤ 40 := by rw [eg2]; exact (qCY hw2'.out).2.1
   have hfr : ∀ r, x.rat? = some r → rneg r = x.sn ∧ rnum r = nv x.gn ∧ r.den = nv x.gd := fun r hr => by
    have V := FracA.val hr;exact ⟨V.neg, dg_inj.1 (by rw [V.num, eg]), dg_inj.1 (by rw [V.den, eg2])⟩
   have hok : x.sd = false → x.gd.length ≠ 0 → Nat.gcd (nv x.gn) (nv x.gd) = 1 → ∃ r, x.rat? = some r := fun h3 h4 h5 => FracA.is_rat hw1'.out hw2'.out h3 h4 h5;have hsdno : x.sd = true → x.rat? = none := fun h => FracA.not_ok (by unfold FracA.ok; rw [h]; simp);have hgdno : x.gd.length = 0 → x.rat? = none := fun h => FracA.not_ok (by unfold FracA.ok; rw [h]; simp);have em3 : m2 = x.gd.length := by rw [em2, eg2]
   rw [em] at hn1 ⊢;rw [em2] at hn2;clear em2 hn12' hn2';subst em3;obtain ⟨sd, hsd⟩ : ∃ sd, x.sd = sd := ⟨_, rfl⟩;rw [hsd] at a2 ⊢
   cases sd with
   | true =>
    have hno : x.rat? = none := hsdno hsd;have ⟨hno', hn1', em', hn2', eg', eg2', hfr', hok'⟩ := hyd8 hno hn1 em hn2 eg eg2 hfr hok;have ⟨hsdno', hgdno', hsd'⟩ := hyd3 hsdno hgdno hsd;clear hsd hgdno hsdno hok hfr eg2 eg hn2 em hn1 hno;go_wp2;obtain ⟨d0, d1, d2, -⟩ := hb9'.out (.bool false) (.slice none 0 0) (.slice none 0 0);exact bodyPost_ret (v := .tuple #[qC8, .bool false]) (by simp [results, Tryz.results173, go_sem, d0, d1, d2, qC8]) rfl ⟨hle9'.out _ _ _, .inr ⟨hno'.out, rfl⟩⟩
   | false =>
    by_cases h0 : x.gd.length = 0
    ·have hno : x.rat? = none := hgdno h0;have h1 : (x.gd.length : Int) = 0 := by omega
     have h2 : ((x.gd.length : Int) == 0) = true := by rw [h1]; rfl
     have ⟨hno', hn1', em', hn2', eg', eg2', hfr', hok'⟩ := hyd8 hno hn1 em hn2 eg eg2 hfr hok;have ⟨hsdno', hgdno', hsd'⟩ := hyd3 hsdno hgdno hsd;clear hsd hgdno hsdno hok hfr eg2 eg hn2 em hn1 hno;rw [h0] at a3 h2 ⊢;clear h0 h1 h2;go_wp2;obtain ⟨d0, d1, d2, -⟩ := hb9'.out (.bool false) (.slice none 0 0) (.slice none 0 0);exact bodyPost_ret (v := .tuple #[qC8, .bool false]) (by simp [results, Tryz.results173, go_sem, d0, d1, d2, qC8]) rfl ⟨hle9'.out _ _ _, .inr ⟨hno'.out, rfl⟩⟩
    ·have h1 : ¬ (x.gd.length : Int) = 0 := by omega
     have h2 : ((x.gd.length : Int) == 0) = false := beq_eq_false_iff_ne.2 (by omega);obtain ⟨G, hG⟩ : ∃ G, Nat.gcd (nv x.gn) (nv x.gd) = G := ⟨_, rfl⟩;have hdz : nv x.gd ≠ 0 := fun e => h0 (by rw [← eg2, e, qAf]; rfl);have hGp : 0 < G := by rw [← hG]; exact Nat.gcd_pos_of_pos_right _ (Nat.pos_of_ne_zero hdz)
     have hgno : G ≠ 1 → x.rat? = none := fun h => FracA.not_gcd (by rw [hG]; exact h);have hyes : G = 1 → ∃ r, x.rat? = some r := fun h => hok hsd h0 (by rw [hG]; exact h);have hn2b : NumL L .i64 W2 (.slice A2 x.gd.length c2) (nv x.gd) := by have h := hn2; rw [eg2] at h; exact h
     clear hok hsdno hgdno h0 hn2;have ⟨hn1', em', hn2b', eg', eg2', hfr', hsd', hG'⟩ := hyd8 hn1 em hn2b eg eg2 hfr hsd hG;have ⟨hdz', hGp', hgno', hyes'⟩ := hyd4 hdz hGp hgno hyes;clear hyes hgno hGp hdz hG hsd hfr eg2 eg hn2b em hn1;go_wp2_with (fail);go_at_call 207;refine (qF0 L (nv x.gn) (nv x.gd) _ _ W2 hUW2'.out hn1'.out hn2b'.out (by omega) (by omega)).mono ?_;rintro e W3 ⟨v3, rfl, hle4, hg⟩;rw [hG'.out] at hg;obtain ⟨A3, c3, rfl⟩ := hg.slice;have hU3 := hUW2'.out.le hle4;have ⟨hle4', hg', hU3'⟩ := hyd3 hle4 hg hU3;clear hU3 hg hle4;go_wp2_with (fail);go_at_call 203;refine (qCI L L G 1 _ _ _ (hg'.out.le (qAA _ _)) (qBI (g := 1) hU3'.out (by omega) qCE _)).mono ?_;rintro e w4 ⟨rfl, nd, rfl⟩;obtain ⟨W5, hW5⟩ : ∃ W5, (W3.alloc (.cells #[.int .i64 ((1 : Nat) : Int)] 3)).drewN nd = W5 := ⟨_, rfl⟩;have hle5 : Le W2 W5 := by rw [← hW5]; exact hle4'.out.trans ((qAA _ _).trans (Le.quiet nd))
     rw [hW5];clear a0 a1 a2 a3 z0 z1 z2 g0 g1 g2 hb9' hle9';have hbx5 := (Below.block hle5 _ (gsl hbx2'.out)).trans hbx2'.out;have hbq5 := (Below.block hle5 _ (gsl hbq2'.out)).trans hbq2'.out;obtain ⟨a0, a1, a2, a3⟩ := qA3 hbx5;obtain ⟨z0, z1, z2, g0, g1, g2⟩ := qAD hbq5;have hb9 := fun u0 u1 u2 => qAD (qA0 (u0 := u0) (u1 := u1) (u2 := u2) hbq5);have hle9 := fun u0 u1 u2 => qAg (u0 := u0) (u1 := u1) (u2 := u2) (hle3'.out.trans hle5) (show w.heap.size ≤ w.heap.size + 1 by omega);have hfin := fun u0 u1 u2 => And.intro (NumL.box3 (u0 := u0) (u1 := u1) (u2 := u2) (hn1'.out.le hle5) hbq5) (NumL.box3 (u0 := u0) (u1 := u1) (u2 := u2) (hn2b'.out.le hle5) hbq5);obtain ⟨o, ho⟩ : ∃ o, ordI G 1 = o := ⟨_, rfl⟩;rw [ho];have ⟨hW5', hle5', hbx5', hbq5', hb9', hle9', hfin'⟩ := hyd7 hW5 hle5 hbx5 hbq5 hb9 hle9 hfin;clear hfin hle9 hb9 hbq5 hbx5 hle5 hW5
     by_cases hG1 : G = 1
     ·obtain ⟨r, hr⟩ := hyes'.out hG1;obtain ⟨f1, f2, f3⟩ := hfr'.out r hr;have ho1 : o = 0 := by rw [← ho]; exact ordI_zero.2 hG1
      subst ho1;have ⟨hr', f1', f2', f3', hG1', ho'⟩ := hyd6 hr f1 f2 f3 hG1 ho;clear ho hG1 f3 f2 f1 hr;go_wp2;obtain ⟨d0, d1, d2, -⟩ := hb9'.out (.bool x.sn) (.slice A1 (dg (nv x.gn)).length c1) (.slice A2 x.gd.length c2);refine bodyPost_ret (v := .tuple #[.agg #[.bool x.sn, .slice A1 (dg (nv x.gn)).length c1, .slice A2 x.gd.length c2], .bool true]) (by simp [results, Tryz.results173, go_sem, d0, d1, d2]) rfl ⟨hle9'.out _ _ _, .inl ⟨r, hr'.out, _, rfl, _, _, by rw [f1'.out], ?_, ?_⟩⟩
      ·rw [f2'.out]; exact (hfin'.out _ _ _).1
      ·rw [f3'.out]; exact (hfin'.out _ _ _).2
     ·have hno := hgno'.out hG1;have ho1 : (o == 0) = false := beq_eq_false_iff_ne.2 (fun h => hG1 (ordI_zero.1 (ho.trans h)));have ho2 : ¬ o = 0 := fun h => hG1 (ordI_zero.1 (ho.trans h));have ho3 : (o != 0) = true := by simpa using ho2
      have ⟨hno', ho', hG1'⟩ := hyd3 hno ho hG1;clear hG1 ho hno;go_wp2;obtain ⟨d0, d1, d2, -⟩ := hb9'.out (.bool false) (.slice none 0 0) (.slice none 0 0);exact bodyPost_ret (v := .tuple #[qC8, .bool false]) (by simp [results, Tryz.results173, go_sem, d0, d1, d2, qC8]) rfl ⟨hle9'.out _ _ _, .inr ⟨hno'.out, rfl⟩⟩
end Go.Proofs.YtabfaobakmjiaaaGreat
