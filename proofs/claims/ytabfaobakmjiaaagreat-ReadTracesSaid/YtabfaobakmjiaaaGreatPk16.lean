/- reference 1: numbers of 0 or more in groups: cut, order, group. reference 1: numbers of 0 or more in groups: sum, less. reference 1: numbers of 0 or more in .. -/
import Derived.Test.YtabfaobakmjiaaaGreatPk11
import Derived.IntWalk
namespace Go.Proofs.YtabfaobakmjiaaaGreat
set_option maxRecDepth 100000
set_option maxHeartbeats 4000000
open Go.RowKit Go.Shelf
set_option linter.unusedVariables false
set_option linter.unusedSimpArgs false
theorem qCR : qC2 Tryz.prog 56 3 (.int .i64 0) 8 := ⟨Tryz.underlying56, by kernel_rfl, rfl⟩
theorem qKa (L : Nat → Prop) (l : List Nat) (A : Option Addr) (n c : Nat) (w : World) (hv : ArrL L (gv .i64) w (.slice A n c) l) :
  Calls Tryz.prog 197 #[.slice A n c] w fun e w' => e = .returned (.slice A (qA5 l).length c) ∧ w = w' := by
 obtain ⟨A, c, hv, h1, h2, hN, h3⟩ := hv;injection hv with e1 e2 e3;subst e1 e2 e3;unfold maxLen at h2;have ⟨hN', h3'⟩ := hyd2 hN h3;clear h3 hN;go_enter Tryz.func197, Tryz.ntmps197;go_wp2
 go_loop [3] (fun s => ∃ m : Nat, m ≤ l.length ∧ s = .int .i64 m ∧ Hid (qA5 (l.take m) = qA5 l)) (fun s => (intOf s).toNat)
 case atStart => exact ⟨l.length, Nat.le_refl _, rfl, Lib.hid (by rw [List.take_length])⟩
 case round =>
  obtain ⟨m, hm, rfl, ht⟩ := hrel
  by_cases h0 : m = 0
  ·subst h0;go_wp2;go_ret;rw [← ht.out];exact ⟨by simp [qA5], rfl⟩
  ·obtain ⟨k, rfl⟩ : ∃ k, m = k + 1 := ⟨m - 1, by omega⟩;obtain ⟨b, off, rfl, hL, hlt, hc⟩ := h3'.out (by omega);have hck := hc k (by omega);unfold gv at hck;clear hc
   by_cases hz : l[k] = 0
   ·rw [hz] at hck;have ht2 : Hid (qA5 (l.take k) = qA5 l) := Lib.hid (by rw [← ht.out, qEE (by omega) hz]);have hz' := hyd1 hz;clear hz;clear ht h0;go_wp2
    go_round
    case rel => exact ⟨k, by omega, by go_num, ht2⟩
    case measure => simp [intOf]
   ·have hz2 : ((l[k] : Int) == 0) = false := by simp; omega
    have ht2 : Hid (l.take (k + 1) = qA5 l) := Lib.hid (by rw [← ht.out, qES (by omega) hz]);generalize l[k] = g at *;clear ht h0;go_wp2;go_ret;rw [← ht2.out];exact ⟨by simp; omega, rfl⟩
theorem qDP (L : Nat → Prop) (l : List Nat) (v : Value) (w : World) (hv : ArrL L (gv .i64) w v l) :
  Calls Tryz.prog 197 #[v] w fun e w' => ∃ v', e = .returned v' ∧ w = w' ∧ ArrL L (gv .i64) w v' (qA5 l) := by
 obtain ⟨A, c, rfl, r⟩ := hv;have hv : ArrL L (gv .i64) w (.slice A l.length c) l := ⟨A, c, rfl, r⟩;exact (qKa L l A l.length c w hv).mono fun e w' ⟨h1, h2⟩ => ⟨_, h1, h2, hv.trim⟩
def ordI (a b : Nat) : Int := if a < b then -1 else if a = b then 0 else 1
theorem qDV {a b : Nat} : 0 ≤ ordI a b ↔ b ≤ a := by unfold ordI; by_cases h : a < b <;> by_cases h2 : a = b <;> simp [h, h2] <;> omega
theorem ordI_zero {a b : Nat} : ordI a b = 0 ↔ a = b := by unfold ordI; by_cases h : a < b <;> by_cases h2 : a = b <;> simp [h, h2] <;> omega
theorem qCI (L L2 : Nat → Prop) (a b : Nat) (va vb : Value) (w : World) (ha : NumL L .i64 w va a) (hb : NumL L2 .i64 w vb b) :
  Calls Tryz.prog 203 #[va, vb] w fun e w' => e = .returned (.int .i64 (ordI a b)) ∧ ∃ n, w' = w.drewN n := by
 obtain ⟨Aa, ca, rfl, a1, a2, aN, a3⟩ := ha;obtain ⟨Ab, cb, rfl, b1, b2, bN, b3⟩ := hb;unfold maxLen at a2 b2;have hB := qAS;have ⟨a3', b3', aN', bN', hB'⟩ := hyd5 a3 b3 aN bN hB;clear hB bN aN b3 a3
 by_cases hlen : (dg a).length = (dg b).length
 ·have hne : (((dg a).length : Int) != ((dg b).length : Int)) = false := by simp [hlen]
  have hne2 : ¬ ((dg a).length : Int) ≠ ((dg b).length : Int) := by simp [hlen]
  have hlen' := hyd1 hlen;clear hlen;go_enter Tryz.func203, Tryz.ntmps203;go_wp2;go_loopw [5] (fun i wr => ∃ (k : Nat) (j : Int), k ≤ (dg a).length ∧ j = (k : Int) - 1 ∧ i = .int .i64 j ∧ Hid ((dg a).drop k = (dg b).drop k) ∧ Hid (∃ n, wr = w.drewN n)) (fun i _ => (intOf i + 1).toNat)
  case atStart => exact ⟨(dg a).length, _, Nat.le_refl _, rfl, rfl, Lib.hid (by rw [List.drop_eq_nil_of_le (Nat.le_refl _), List.drop_eq_nil_of_le (by have := hlen'.out; omega)]), Lib.hid ⟨0, rfl⟩⟩
  case round =>
   obtain ⟨k, j, hk, hj, rfl, hd, hnd⟩ := hrel;obtain ⟨nd, hnd⟩ := hnd.out
   by_cases h0 : k = 0
   ·obtain rfl : j = -1 := by omega
    have hab : a = b := by have h := hd.out; rw [h0] at h; exact qHU h
    clear h0 hj;have ⟨hnd', hab'⟩ := hyd2 hnd hab;clear hab hnd;go_wp2;go_ret;exact ⟨qBx (by have h := hab'.out; subst h; simp [ordI]), nd, hnd'.out⟩
   ·obtain ⟨m, rfl⟩ : ∃ m, k = m + 1 := ⟨k - 1, by omega⟩
    obtain rfl : j = (m : Int) := by omega
    clear hj h0;have hml : m < (dg a).length := by omega
    have hml2 : m < (dg b).length := by have := hlen'.out; omega
    obtain ⟨ba, oa, rfl, -, hba, hca⟩ := a3'.out (by omega);obtain ⟨bb, ob, rfl, -, hbb, hcb⟩ := b3'.out (by omega);have hcka : wr.cell? ⟨ba, oa + m, none⟩ = some (gv .i64 (dg a)[m]) := by rw [hnd]; exact hca m hml
    have hckb : wr.cell? ⟨bb, ob + m, none⟩ = some (gv .i64 (dg b)[m]) := by rw [hnd]; exact hcb m hml2
    clear hca hcb;unfold gv at hcka hckb;obtain ⟨g, hg⟩ : ∃ g, (dg a)[m] = g := ⟨_, rfl⟩;obtain ⟨h, hh⟩ : ∃ h, (dg b)[m] = h := ⟨_, rfl⟩;rw [hg] at hcka;rw [hh] at hckb;have i1 : (0 : Int) ≤ (m : Int) := by omega
    have i2 : (m : Int) < ((dg a).length : Int) := by omega
    have i3 : (m : Int) < ((dg b).length : Int) := by omega
    have ⟨hg', hh', hnd'⟩ := hyd3 hg hh hnd;clear hnd hh hg
    rcases Nat.lt_trichotomy g h with hgh | hgh | hgh
    ·have c1 : decide ((g : Int) < (h : Int)) = true := by simpa using hgh
     have c2 : decide (g < h) = true := by simpa using hgh
     have hlt : a < b := qEC hlen'.out m hml hd.out (by rw [hg'.out, hh'.out]; exact hgh);have hlt' := hyd1 hlt;clear hlt;go_wp2;go_quiet (fail);go_wp2;go_ret;exact ⟨qBx (by unfold ordI; rw [if_pos hlt'.out]), _, by rw [hnd'.out]; exact World.drewN_drewN _ _ _⟩
    ·subst hgh;have c1 : decide ((g : Int) < (g : Int)) = false := by simp
     have c2 : decide (g < g) = false := by simp
     have hd2 := Lib.hid (qHT hlen'.out m hml hd.out (by rw [hg'.out, hh'.out]));clear hd;go_wp2;go_quiet (fail);have hw3 := fun n => World.drewN_drewN wr n;go_wp2;go_quiet (fail);go_wp2;go_roundw
     case rel => exact ⟨m, _, by omega, rfl, rfl, hd2, Lib.hid ⟨_, by rw [hnd'.out]; exact World.drewN_drewN _ _ _⟩⟩
     case measure => simp [intOf]
    ·have c1 : decide ((g : Int) < (h : Int)) = false := by simp; omega
     have c2 : decide (g < h) = false := by simp; omega
     have c3 : decide ((h : Int) < (g : Int)) = true := by simpa using hgh
     have c4 : decide (h < g) = true := by simpa using hgh
     have hlt : b < a := qEC hlen'.out.symm m hml2 hd.out.symm (by rw [hg'.out, hh'.out]; exact hgh);have hlt' := hyd1 hlt;clear hlt;go_wp2;go_quiet (fail);go_wp2;go_quiet (fail);go_wp2;go_ret;exact ⟨qBx (by have := hlt'.out; unfold ordI; rw [if_neg (by omega), if_neg (by omega)]), _, by rw [hnd'.out, World.drewN_drewN]; exact World.drewN_drewN _ _ _⟩
 ·have hne : (((dg a).length : Int) != ((dg b).length : Int)) = true := by simp; omega
  have hne2 : ((dg a).length : Int) ≠ ((dg b).length : Int) := by omega
  by_cases hlt : (dg a).length < (dg b).length
  ·have hlt2 : ((dg a).length : Int) < ((dg b).length : Int) := by omega
   have := qCk hlt;go_enter Tryz.func203, Tryz.ntmps203;have this' := hyd1 this;clear this;go_wp2;go_ret;exact ⟨qBx (by unfold ordI; rw [if_pos this'.out]), 0, rfl⟩
  ·have hlt2 : ¬ ((dg a).length : Int) < ((dg b).length : Int) := by omega
   have := qCk (m := b) (n := a) (by omega);have this' := hyd1 this;clear this;go_enter Tryz.func203, Tryz.ntmps203;go_wp2;go_ret;exact ⟨qBx (by have := this'.out; unfold ordI; rw [if_neg (by omega), if_neg (by omega)]), 0, rfl⟩
theorem qAr (L : Nat → Prop) (l : List Nat) (i : Nat) (v : Value) (w : World) (hv : ArrL L (gv .i64) w v l) (hi : i ≤ 1000000000) :
  Calls Tryz.prog 210 #[v, .int .i64 i] w fun e w' => e = .returned (.int .i64 ((l.getD i 0 : Nat) : Int)) ∧ w = w' := by
 obtain ⟨A, c, rfl, h1, h2, hN, h3⟩ := hv;unfold maxLen at h2
 by_cases h : i < l.length
 ·obtain ⟨b, off, rfl, hL, hlt, hc⟩ := h3 (by omega);have hck := hc i h;rw [qA7 h];unfold gv at hck;generalize l[i] = g at *;clear hc h3 hN;go_enter Tryz.func210, Tryz.ntmps210;go_wp2;go_ret;exact ⟨rfl, rfl⟩
 ·rw [qC4 (by omega)];clear h3 hN;go_enter Tryz.func210, Tryz.ntmps210;go_wp2;go_ret;exact ⟨rfl, rfl⟩
theorem Le.quiet {w : World} (n : Nat) : Le w (w.drewN n) := qBU (Below.refl _ _) n
theorem qJI (L L2 L3 : Nat → Prop) (a b : Nat) (va vb : Value) (w : World) (hL : Up w L) (ha : NumL L2 .i64 w va a) (hb : NumL L3 .i64 w vb b) (hlen : (dg a).length < (dg b).length) (hm : (dg b).length ≤ 100000000) :
  Calls Tryz.prog 202 #[va, vb] w fun e w' => ∃ v', e = .returned v' ∧ Le w w' ∧ NumL L .i64 w' v' (a + b) := by
 have ha0 := ha;have hb0 := hb;obtain ⟨Aa, ca, rfl⟩ := ha.slice;obtain ⟨Ab, cb, rfl⟩ := hb.slice;have hB := qAS;have hlen2 : (dg a).length ≤ (dg b).length := by omega
 have hcond : ((dg a).length < (dg b).length) ∨ ¬ ((dg a).length < (dg b).length) := by omega
 clear hcond ha hb;have lx := qAW b;have ly := qAW a;have hsum : nv (dg b) + nv (dg a) = a + b := by have h1 := qA4 a; have h2 := qA4 b; omega
 obtain ⟨M, hM⟩ : ∃ M, (dg b).length = M := ⟨_, rfl⟩;have hmx1 : ((dg a).length : Int) < ((dg b).length : Int) ∨ ¬ ((dg a).length : Int) < ((dg b).length : Int) := by omega
 clear hmx1;have ⟨hL', ha0', hb0', hB', lx', ly', hsum', hM'⟩ := hyd8 hL ha0 hb0 hB lx ly hsum hM;clear hM hsum ly lx hB hb0 ha0 hL;go_enter Tryz.func202, Tryz.ntmps202;go_wp2;go_loopw [5, 6, 7] (fun s cy i wr => ∃ (k c : Nat) (pre : List Nat), k ≤ (dg b).length ∧ i = .int .i64 k ∧ cy = .int .i64 c ∧ c ≤ 1 ∧ Hid (Adding (dg b) (dg a) k c pre) ∧ Hid (Below w.heap.size w wr) ∧ Hid (wr.ownsRow w.heap.size 3 1 s pre.length (pre.map (gv .i64)))) (fun _ _ i _ => (dg b).length - (intOf i).toNat)
 case atStart => exact ⟨0, 0, [], Nat.zero_le _, rfl, rfl, by omega, Lib.hid (Adding.start _ _), Lib.hid (Below.refl _ _), Lib.hid (World.ownsRow_nil _ _ _ _)⟩
 case round =>
  obtain ⟨k, c, pre, hk, rfl, rfl, hc1, hA, hbl, hown⟩ := hrel;have hz : w.heap.size ≤ wr.heap.size := hbl.out.size;have hpl : pre.length = k := hA.out.len
  by_cases hlt : k < (dg b).length
  ·obtain ⟨g, hg⟩ : ∃ g, (dg a).getD k 0 = g := ⟨_, rfl⟩;obtain ⟨h, hh⟩ : ∃ h, (dg b).getD k 0 = h := ⟨_, rfl⟩;have hgB : g < 1000000000 := by rw [← hg, ← hB'.out]; exact qAt (qAW _) _
   have hhB : h < 1000000000 := by rw [← hh, ← hB'.out]; exact qAt (qAW _) _
   obtain ⟨hA2, hd2⟩ := hA.out.next lx'.out ly'.out (g + h + c) (by rw [← hg, ← hh]; omega);rw [hB'.out] at hA2;obtain ⟨q, hq⟩ : ∃ q : Nat, (g + h + c) / 1000000000 = q := ⟨_, rfl⟩;obtain ⟨r, hr⟩ : ∃ r : Nat, (g + h + c) % 1000000000 = r := ⟨_, rfl⟩;rw [hq, hr] at hA2;have hq1 : q ≤ 1 := hA2.bound;have hr1 : r < 1000000000 := by omega
   have hpl2 : pre.length + 1 ≤ 200000000 := by omega
   have eq : ((g : Int) + h + c) / 1000000000 = q := by omega
   have er : ((g : Int) + h + c) % 1000000000 = r := by omega
   have hck1 := qAr L2 (dg a) k _ wr (ArrL.le ha0'.out hbl.out) (by omega);have hck2 := qAr L3 (dg b) k _ wr (ArrL.le hb0'.out hbl.out) (by omega);rw [hg] at hck1;rw [hh] at hck2;have ⟨hg', hh', hd2', hA2', hpl2', hq', hr', hck1'⟩ := hyd8 hg hh hd2 hA2 hpl2 hq hr hck1;have hck2' := hyd1 hck2;clear hck2 hck1 hr hq hpl2 hA2 hd2 hh hg;go_wp2_with (fail);go_at_call 210;refine hck1'.out.mono ?_;rintro e w' ⟨rfl, rfl⟩;go_wp2_with (fail);go_at_call 210;refine hck2'.out.mono ?_;rintro e w' ⟨rfl, rfl⟩;go_wp2_with (at_builtin; go_must (refine qAY rfl (.tmp 27) (.tmp 30) 56 rfl w.heap.size 3 .i64 8 qCR (by decide) _ pre rfl (hown.out.alloc _) _ [r] rfl (qBR _ _ _ _) (by have := hpl2'.out; simp; omega) (by simp; omega) ?_); intro v' w' r1 r2 r3 r4);have hbn : Hid (Below w.heap.size w w') := Lib.hid ((hbl.out.alloc (by omega) _).trans r2);have ⟨r1', r2', r3', r4'⟩ := hyd4 r1 r2 r3 r4;clear r4 r3 r2 r1;go_wp2;go_roundw
   case rel => exact ⟨k + 1, q, pre ++ [r], by omega, by go_num, by go_num, hq1, hA2', hbn, r1'⟩
   case measure => simp [intOf]; omega
  ·obtain ⟨hd1, hd2⟩ := hA.out.done (show (dg b).length ≤ k by omega) (by omega);have hpl2 : pre.length + 1 ≤ 200000000 := by omega
   have ⟨hd1', hd2'⟩ := hyd2 hd1 hd2;clear hd2 hd1;go_wp2_with (at_builtin; go_must (refine qAY rfl (.tmp 34) (.tmp 36) 56 rfl w.heap.size 3 .i64 8 qCR (by decide) _ pre rfl (hown.out.alloc _) _ [c] rfl (qBR _ _ _ _) (by simp; omega) (by simp; omega) ?_); intro v' w' r1 r2 r3 r4);have hbn : Below w.heap.size w w' := (hbl.out.alloc (by omega) _).trans r2;have hn : ArrL L (gv .i64) w' v' (pre ++ [c]) := ArrL.of_own r1 hL'.out;have ⟨r1', r2', r3', r4'⟩ := hyd4 r1 r2 r3 r4;clear r4 r3 r2 r1;go_wp2_with (first | (go_at_call 197; ((with_reducible refine (qDP L _ _ _ hn).mono ?_); rintro e w' ⟨v2, rfl, rfl, hv2⟩)));go_ret;exact ⟨_, rfl, hbn, qBD hv2 hd2'.out (hd1'.out.trans hsum'.out)⟩
theorem qJJ (L L2 L3 : Nat → Prop) (a b : Nat) (va vb : Value) (w : World) (hL : Up w L) (ha : NumL L2 .i64 w va a) (hb : NumL L3 .i64 w vb b) (hlen : (dg a).length ≥ (dg b).length) (hm : (dg a).length ≤ 100000000) :
  Calls Tryz.prog 202 #[va, vb] w fun e w' => ∃ v', e = .returned v' ∧ Le w w' ∧ NumL L .i64 w' v' (a + b) := by
 have ha0 := ha;have hb0 := hb;obtain ⟨Aa, ca, rfl⟩ := ha.slice;obtain ⟨Ab, cb, rfl⟩ := hb.slice;have hB := qAS;have hlen2 : (dg b).length ≤ (dg a).length := by omega
 have hcond : ((dg a).length < (dg b).length) ∨ ¬ ((dg a).length < (dg b).length) := by omega
 clear hcond ha hb;have lx := qAW a;have ly := qAW b;have hsum : nv (dg a) + nv (dg b) = a + b := by have h1 := qA4 a; have h2 := qA4 b; omega
 obtain ⟨M, hM⟩ : ∃ M, (dg a).length = M := ⟨_, rfl⟩;have hmx1 : ((dg a).length : Int) < ((dg b).length : Int) ∨ ¬ ((dg a).length : Int) < ((dg b).length : Int) := by omega
 clear hmx1;have ⟨hL', ha0', hb0', hB', lx', ly', hsum', hM'⟩ := hyd8 hL ha0 hb0 hB lx ly hsum hM;clear hM hsum ly lx hB hb0 ha0 hL;go_enter Tryz.func202, Tryz.ntmps202;go_wp2;go_loopw [5, 6, 7] (fun s cy i wr => ∃ (k c : Nat) (pre : List Nat), k ≤ (dg a).length ∧ i = .int .i64 k ∧ cy = .int .i64 c ∧ c ≤ 1 ∧ Hid (Adding (dg a) (dg b) k c pre) ∧ Hid (Below w.heap.size w wr) ∧ Hid (wr.ownsRow w.heap.size 3 1 s pre.length (pre.map (gv .i64)))) (fun _ _ i _ => (dg a).length - (intOf i).toNat)
 case atStart => exact ⟨0, 0, [], Nat.zero_le _, rfl, rfl, by omega, Lib.hid (Adding.start _ _), Lib.hid (Below.refl _ _), Lib.hid (World.ownsRow_nil _ _ _ _)⟩
 case round =>
  obtain ⟨k, c, pre, hk, rfl, rfl, hc1, hA, hbl, hown⟩ := hrel;have hz : w.heap.size ≤ wr.heap.size := hbl.out.size;have hpl : pre.length = k := hA.out.len
  by_cases hlt : k < (dg a).length
  ·obtain ⟨g, hg⟩ : ∃ g, (dg a).getD k 0 = g := ⟨_, rfl⟩;obtain ⟨h, hh⟩ : ∃ h, (dg b).getD k 0 = h := ⟨_, rfl⟩;have hgB : g < 1000000000 := by rw [← hg, ← hB'.out]; exact qAt (qAW _) _
   have hhB : h < 1000000000 := by rw [← hh, ← hB'.out]; exact qAt (qAW _) _
   obtain ⟨hA2, hd2⟩ := hA.out.next lx'.out ly'.out (g + h + c) (by rw [← hg, ← hh]; omega);rw [hB'.out] at hA2;obtain ⟨q, hq⟩ : ∃ q : Nat, (g + h + c) / 1000000000 = q := ⟨_, rfl⟩;obtain ⟨r, hr⟩ : ∃ r : Nat, (g + h + c) % 1000000000 = r := ⟨_, rfl⟩;rw [hq, hr] at hA2;have hq1 : q ≤ 1 := hA2.bound;have hr1 : r < 1000000000 := by omega
   have hpl2 : pre.length + 1 ≤ 200000000 := by omega
   have eq : ((g : Int) + h + c) / 1000000000 = q := by omega
   have er : ((g : Int) + h + c) % 1000000000 = r := by omega
   have hck1 := qAr L2 (dg a) k _ wr (ArrL.le ha0'.out hbl.out) (by omega);have hck2 := qAr L3 (dg b) k _ wr (ArrL.le hb0'.out hbl.out) (by omega);rw [hg] at hck1;rw [hh] at hck2;have ⟨hg', hh', hd2', hA2', hpl2', hq', hr', hck1'⟩ := hyd8 hg hh hd2 hA2 hpl2 hq hr hck1;have hck2' := hyd1 hck2;clear hck2 hck1 hr hq hpl2 hA2 hd2 hh hg;go_wp2_with (fail);go_at_call 210;refine hck1'.out.mono ?_;rintro e w' ⟨rfl, rfl⟩;go_wp2_with (fail);go_at_call 210;refine hck2'.out.mono ?_;rintro e w' ⟨rfl, rfl⟩;go_wp2_with (at_builtin; go_must (refine qAY rfl (.tmp 27) (.tmp 30) 56 rfl w.heap.size 3 .i64 8 qCR (by decide) _ pre rfl (hown.out.alloc _) _ [r] rfl (qBR _ _ _ _) (by have := hpl2'.out; simp; omega) (by simp; omega) ?_); intro v' w' r1 r2 r3 r4);have hbn : Hid (Below w.heap.size w w') := Lib.hid ((hbl.out.alloc (by omega) _).trans r2);have ⟨r1', r2', r3', r4'⟩ := hyd4 r1 r2 r3 r4;clear r4 r3 r2 r1;go_wp2;go_roundw
   case rel => exact ⟨k + 1, q, pre ++ [r], by omega, by go_num, by go_num, hq1, hA2', hbn, r1'⟩
   case measure => simp [intOf]; omega
  ·obtain ⟨hd1, hd2⟩ := hA.out.done (show (dg a).length ≤ k by omega) (by omega);have hpl2 : pre.length + 1 ≤ 200000000 := by omega
   have ⟨hd1', hd2'⟩ := hyd2 hd1 hd2;clear hd2 hd1;go_wp2_with (at_builtin; go_must (refine qAY rfl (.tmp 34) (.tmp 36) 56 rfl w.heap.size 3 .i64 8 qCR (by decide) _ pre rfl (hown.out.alloc _) _ [c] rfl (qBR _ _ _ _) (by simp; omega) (by simp; omega) ?_); intro v' w' r1 r2 r3 r4);have hbn : Below w.heap.size w w' := (hbl.out.alloc (by omega) _).trans r2;have hn : ArrL L (gv .i64) w' v' (pre ++ [c]) := ArrL.of_own r1 hL'.out;have ⟨r1', r2', r3', r4'⟩ := hyd4 r1 r2 r3 r4;clear r4 r3 r2 r1;go_wp2_with (first | (go_at_call 197; ((with_reducible refine (qDP L _ _ _ hn).mono ?_); rintro e w' ⟨v2, rfl, rfl, hv2⟩)));go_ret;exact ⟨_, rfl, hbn, qBD hv2 hd2'.out (hd1'.out.trans hsum'.out)⟩
theorem qFi (L L2 L3 : Nat → Prop) (a b : Nat) (va vb : Value) (w : World) (hL : Up w L) (ha : NumL L2 .i64 w va a) (hb : NumL L3 .i64 w vb b) (hma : (dg a).length ≤ 100000000) (hmb : (dg b).length ≤ 100000000) :
  Calls Tryz.prog 202 #[va, vb] w fun e w' => ∃ v', e = .returned v' ∧ Le w w' ∧ NumL L .i64 w' v' (a + b) := by
 by_cases h : (dg a).length < (dg b).length
 ·exact qJI L L2 L3 a b va vb w hL ha hb h hmb
 ·exact qJJ L L2 L3 a b va vb w hL ha hb (by omega) hma
theorem qFA (L L2 L3 : Nat → Prop) (a b : Nat) (va vb : Value) (w : World) (hL : Up w L) (ha : NumL L2 .i64 w va a) (hb : NumL L3 .i64 w vb b) (hle : b ≤ a) (hm : (dg a).length ≤ 100000000) :
  Calls Tryz.prog 204 #[va, vb] w fun e w' => ∃ v', e = .returned v' ∧ Le w w' ∧ NumL L .i64 w' v' (a - b) := by
 have hb0 := hb;obtain ⟨Aa, ca, rfl, a1, a2, aN, a3⟩ := ha;obtain ⟨Ab, cb, rfl⟩ := hb.slice;unfold maxLen at a2;have hB := qAS;have hlb : (dg b).length ≤ (dg a).length := qAK hle;have lx := qAW a;have ly := qAW b;clear hb;have ⟨hL', a3', hb0', aN', hB', lx', ly', hle'⟩ := hyd8 hL a3 hb0 aN hB lx ly hle;clear hle ly lx hB aN hb0 a3 hL;go_enter Tryz.func204, Tryz.ntmps204;go_wp2;go_loopw [5, 6, 7] (fun s br i wr => ∃ (k c : Nat) (pre : List Nat), k ≤ (dg a).length ∧ i = .int .i64 k ∧ br = .int .i64 c ∧ c ≤ 1 ∧ Hid (Lessing (dg a) (dg b) k c pre) ∧ Hid (Below w.heap.size w wr) ∧ Hid (wr.ownsRow w.heap.size 3 1 s pre.length (pre.map (gv .i64)))) (fun _ _ i _ => (dg a).length - (intOf i).toNat)
 case atStart => exact ⟨0, 0, [], Nat.zero_le _, rfl, rfl, by omega, Lib.hid (Lessing.start _ _), Lib.hid (Below.refl _ _), Lib.hid (World.ownsRow_nil _ _ _ _)⟩
 case round =>
  obtain ⟨k, c, pre, hk, rfl, rfl, hc1, hA, hbl, hown⟩ := hrel;have hz : w.heap.size ≤ wr.heap.size := hbl.out.size;have hpl : pre.length = k := hA.out.len
  by_cases hlt : k < (dg a).length
  ·obtain ⟨bx, ox, rfl, -, hbx, hcx⟩ := a3'.out (by omega);have hckx := (hbl.out.cell (p := ⟨bx, ox + k, none⟩) hbx).trans (hcx k hlt);unfold gv at hckx;clear hcx;obtain ⟨g, hg⟩ : ∃ g, (dg a)[k] = g := ⟨_, rfl⟩;have hgD : (dg a).getD k 0 = g := by rw [qA7 hlt, hg]
   have hgB : g < 1000000000 := by rw [← hg, ← hB'.out]; exact qAm _ _ _
   rw [hg] at hckx;obtain ⟨h, hhD⟩ : ∃ h, (dg b).getD k 0 = h := ⟨_, rfl⟩;have hhB : h < 1000000000 := by rw [← hhD, ← hB'.out]; exact qAt (qAW _) _
   obtain ⟨hn, hp⟩ := hA.out.next lx'.out ly'.out ((g : Int) - h - c) (by rw [hgD, hhD]; omega);have hpl2 : pre.length + 1 ≤ 200000000 := by omega
   have hf : ∃ (cond : Bool) (g' : Nat), decide ((g : Int) - h - c < 0) = cond ∧ (if cond then (g : Int) - h - c + 1000000000 else (g : Int) - h - c) = (g' : Int) ∧ g' < 1000000000 ∧ Hid (Lessing (dg a) (dg b) (k + 1) (if cond then 1 else 0) (pre ++ [g'])) := by
    by_cases hneg : (g : Int) - h - c < 0
    ·obtain ⟨g', e1, e2, e3⟩ := hn hneg;rw [hB'.out] at e2;exact ⟨true, g', by simp [hneg], by simpa using e1, e2, Lib.hid e3⟩
    ·obtain ⟨g', e1, e2, e3⟩ := hp hneg;rw [hB'.out] at e2;exact ⟨false, g', by simp [hneg], by simpa using e1, e2, Lib.hid e3⟩
   obtain ⟨cond, g', hcond, hg', hgB', hA2⟩ := hf
   have hck2 : ∀ n, Calls Tryz.prog 210 #[.slice Ab (dg b).length cb, .int .i64 k] (wr.drewN n) fun e w' => e = .returned (.int .i64 (h : Int)) ∧ wr.drewN n = w' := fun n => by
    have h1 := qAr L3 (dg b) k (.slice Ab (dg b).length cb) (wr.drewN n) (ArrL.le hb0'.out (hbl.out.trans (Le.quiet n |>.mono hz))) (by omega);rw [hhD] at h1;exact h1
   have i1 : (0 : Int) ≤ (k : Int) := by omega
   have i2 : (k : Int) < ((dg a).length : Int) := by omega
   have i3 : IntKind.i64.wrap ((g : Int) - h) = (g : Int) - h := IntWalk.i64_in _ (by omega);have i4 : IntKind.i64.wrap ((g : Int) - h - c) = (g : Int) - h - c := IntWalk.i64_in _ (by omega);have ⟨hg', hgD', hpl2', hhD', hck2'⟩ := hyd5 hg hgD hpl2 hhD hck2;clear hck2 hhD hpl2 hgD hg;clear hn hp;have hbq : ∀ n, Below w.heap.size w (wr.drewN n) := fun n => hbl.out.trans (Le.quiet n |>.mono hz);have hownq : ∀ n, (wr.drewN n).ownsRow w.heap.size 3 1 _ pre.length (pre.map (gv .i64)) := fun n => qAb hown.out (Le.quiet n);have ⟨hbq', hownq'⟩ := hyd2 hbq hownq;clear hownq hbq
   cases cond
   ·have hneg : ¬ ((g : Int) - h - c < 0) := of_decide_eq_false hcond;have hadd : (g : Int) - h - c = (g' : Int) := by simpa using hg'
    clear hcond hg';have ⟨i3', i4', hneg', hadd'⟩ := hyd4 i3 i4 hneg hadd;clear hadd hneg i4 i3;go_wp2;have i3 := i3'.out;have i4 := i4'.out;go_quiet (first | (go_at_call 210; exact qEJ (hck2'.out _)));clear i3 i4 i3' i4';rename Nat => nq
    have hbl2 := Lib.hid (hbq'.out nq);have hown2 := Lib.hid (hownq'.out nq);have hz2 : w.heap.size ≤ (wr.drewN nq).heap.size := hbl2.out.size;clear hck2' hbq' hownq' hown hbl hckx;generalize wr.drewN nq = wq at *;have hneg := hneg'.out;have hadd := hadd'.out;clear hneg' hadd';go_wp2_with (at_builtin; go_must (refine qAY rfl (.tmp 29) (.tmp 31) 56 rfl w.heap.size 3 .i64 8 qCR (by decide) _ pre rfl (hown2.out.alloc _) _ [g'] rfl (qBR _ _ _ _) (by have := hpl2'.out; simp; omega) (by simp; omega) ?_); intro v' w' r1 r2 r3 r4);have hbn : Hid (Below w.heap.size w w') := Lib.hid ((hbl2.out.alloc (by omega) _).trans r2);have ⟨r1', r2', r3', r4'⟩ := hyd4 r1 r2 r3 r4;clear r4 r3 r2 r1;clear hneg hadd;go_wp2;go_roundw
    case rel => exact ⟨k + 1, 0, pre ++ [g'], by omega, by go_num, by go_num, by omega, hA2, hbn, r1'⟩
    case measure => simp [intOf]; omega
   ·have hneg : (g : Int) - h - c < 0 := of_decide_eq_true hcond;have hadd : (g : Int) - h - c + 1000000000 = (g' : Int) := by simpa using hg'
    clear hcond hg';have ⟨i3', i4', hneg', hadd'⟩ := hyd4 i3 i4 hneg hadd;clear hadd hneg i4 i3;go_wp2;have i3 := i3'.out;have i4 := i4'.out;go_quiet (first | (go_at_call 210; exact qEJ (hck2'.out _)));clear i3 i4 i3' i4';rename Nat => nq
    have hbl2 := Lib.hid (hbq'.out nq);have hown2 := Lib.hid (hownq'.out nq);have hz2 : w.heap.size ≤ (wr.drewN nq).heap.size := hbl2.out.size;clear hck2' hbq' hownq' hown hbl hckx;generalize wr.drewN nq = wq at *;have hneg := hneg'.out;have hadd := hadd'.out;clear hneg' hadd';go_wp2_with (at_builtin; go_must (refine qAY rfl (.tmp 29) (.tmp 31) 56 rfl w.heap.size 3 .i64 8 qCR (by decide) _ pre rfl (hown2.out.alloc _) _ [g'] rfl (qBR _ _ _ _) (by have := hpl2'.out; simp; omega) (by simp; omega) ?_); intro v' w' r1 r2 r3 r4);have hbn : Hid (Below w.heap.size w w') := Lib.hid ((hbl2.out.alloc (by omega) _).trans r2);have ⟨r1', r2', r3', r4'⟩ := hyd4 r1 r2 r3 r4;clear r4 r3 r2 r1;clear hneg hadd;go_wp2;go_roundw
    case rel => exact ⟨k + 1, 1, pre ++ [g'], by omega, by go_num, by go_num, by omega, hA2, hbn, r1'⟩
    case measure => simp [intOf]; omega
  ·obtain rfl : k = (dg a).length := by omega
   have hd1 := hA.out.done ly'.out (by rw [qA4, qA4]; exact hle'.out) hlb;have hn : ArrL L (gv .i64) wr _ pre := ArrL.of_own hown.out hL'.out;rw [qA4, qA4] at hd1;have hlow := hA.out.low;have ⟨hd1', hlow', hA', hown'⟩ := hyd4 hd1 hlow hA hown;clear hown hA hlow hd1;go_wp2_with (first | (go_at_call 197; ((with_reducible refine (qDP L _ _ _ hn).mono ?_); rintro e w' ⟨v2, rfl, rfl, hv2⟩)));go_ret;exact ⟨_, rfl, hbl.out, qBD hv2 hlow'.out hd1'.out⟩
theorem qDw (L L2 L3 : Nat → Prop) (a b : Nat) (va vb : Value) (w : World) (hL : Up w L) (ha : NumL L2 .i64 w va a) (hb : NumL L3 .i64 w vb b) (hma : (dg a).length ≤ 100000000) (hmb : (dg b).length ≤ 100000000) :
  Calls Tryz.prog 200 #[va, vb] w fun e w' => ∃ v', e = .returned v' ∧ Le w w' ∧ NumL L .i64 w' v' (a * b) := by
 obtain ⟨Aa, ca, rfl, a1, a2, aN, a3⟩ := ha;obtain ⟨Ab, cb, rfl, b1, b2, bN, b3⟩ := hb;unfold maxLen at a2 b2;have hB := qAS;have lx := qAW a;have ly := qAW b;have ⟨hL', a3', b3', aN', bN', hB', lx', ly'⟩ := hyd8 hL a3 b3 aN bN hB lx ly;clear ly lx hB bN aN b3 a3 hL;go_enter Tryz.func200, Tryz.ntmps200;go_wp2_with (at_make; go_must (refine qCW (f := gv .i64) _ rfl _ _ 56 rfl w.heap.size 3 0 8 qCR rfl (by decide) ((dg a).length + (dg b).length + 1) (by go_num) (by go_num) (by omega) (Nat.le_refl _) _ rfl ?_); intro w1 r1 r2 r3);have ⟨r1', r2', r3'⟩ := hyd3 r1 r2 r3;clear r3 r2 r1;obtain ⟨N, hN⟩ : ∃ N, (dg a).length + (dg b).length + 1 = N := ⟨_, rfl⟩;rw [hN] at r1' ⊢;have hN' := hyd1 hN;have hNl : (dg a).length + (dg b).length < N := by omega
 clear hN;go_loopw [6] (fun i wr => ∃ (k : Nat) (out : List Nat), k ≤ (dg a).length ∧ i = .int .i64 k ∧ Hid (out.length = N) ∧ Hid (Mul (dg a) (dg b) k out) ∧ Hid (Below w.heap.size w wr) ∧ Hid (wr.ownsRow w.heap.size 3 1 (.slice (some ⟨w.heap.size, 0, none⟩) N N) N (out.map (gv .i64)))) (fun i _ => (dg a).length - (intOf i).toNat)
 case atStart => exact ⟨0, _, Nat.zero_le _, rfl, Lib.hid (by simp), Lib.hid (Mul.start _ _ _), r2', r1'⟩
 case round =>
  obtain ⟨k, out, hk, rfl, hol, hM, hbl, hown⟩ := hrel
  by_cases hlt : k < (dg a).length
  ·obtain ⟨bx, ox, rfl, -, hbx, hcx⟩ := a3'.out (by omega);have hckx0 : ∀ W, Below w.heap.size w W → W.cell? ⟨bx, ox + k, none⟩ = some (.int .i64 ((dg a)[k] : Nat)) := fun W h => (h.cell (p := ⟨bx, ox + k, none⟩) hbx).trans (hcx k hlt);clear hcx;obtain ⟨x, hx⟩ : ∃ x, (dg a)[k] = x := ⟨_, rfl⟩;have hxB : x < 1000000000 := by rw [← hx, ← hB'.out]; exact qAm _ _ _
   rw [hx] at hckx0;have ⟨hx', hckx0'⟩ := hyd2 hx hckx0;clear hckx0 hx;rename World => w0
   go_wp2;go_loopw [7, 8] (fun cy i wr => ∃ (k2 c : Nat) (out2 : List Nat), k2 ≤ (dg b).length ∧ i = .int .i64 k2 ∧ cy = .int .i64 c ∧ c < 1000000000 ∧ Hid (out2.length = N) ∧ Hid (MulRow x (dg b) k k2 c out out2) ∧ Hid (Below w.heap.size w wr) ∧ Hid (wr.ownsRow w.heap.size 3 1 (.slice (some ⟨w.heap.size, 0, none⟩) N N) N (out2.map (gv .i64)))) (fun _ i _ => (dg b).length - (intOf i).toNat)
   case atStart => exact ⟨0, 0, out, Nat.zero_le _, rfl, rfl, by omega, hol, Lib.hid (MulRow.start _ _ _ _ hM.out.low), hbl, hown⟩
   case round =>
    obtain ⟨k2, c, out2, hk2, rfl, rfl, hc, hol2, hR, hbl2, hown2⟩ := hrel
    have hsz2 : w.heap.size < wr.heap.size := by
     obtain ⟨g9, c9, e9, -, h9, -, -⟩ := qCp hown2.out (by omega);injection e9 with e9;injection e9 with e9;injection e9 with e9;omega
    by_cases hlt2 : k2 < (dg b).length
    ·obtain ⟨by_, oy, rfl, -, hby, hcy⟩ := b3'.out (by omega);have hcky := (hbl2.out.cell (p := ⟨by_, oy + k2, none⟩) hby).trans (hcy k2 hlt2);have hckx := hckx0'.out wr hbl2.out;unfold gv at hcky;clear hcy;obtain ⟨y, hy⟩ : ∃ y, (dg b)[k2] = y := ⟨_, rfl⟩;have hyB : y < 1000000000 := by rw [← hy, ← hB'.out]; exact qAm _ _ _
     rw [hy] at hcky;obtain ⟨J, hJ⟩ : ∃ J : Nat, k + k2 = J := ⟨_, rfl⟩;have hJ2 : (k : Int) + (k2 : Int) = (J : Int) := by omega
     have hJN : J < N := by omega
     have hJl : J < out2.length := by rw [hol2.out]; exact hJN
     obtain ⟨z, hz⟩ : ∃ z, out2[J] = z := ⟨_, rfl⟩;have hzB : z < 1000000000 := by rw [← hz, ← hB'.out]; exact hR.out.low.get _ _
     have hckz := qBL hown2.out hol2.out (k := J) (x := z) (by rw [List.getElem?_eq_getElem hJl, hz]);unfold gv at hckz;have hfr := hown2.out.frozenAt J;obtain ⟨hNx, hd⟩ := hR.out.next (by rw [hB'.out]; exact hxB) ly'.out hlt2 (by rw [hJ]; exact hJl) (x * y + z + c) (by simp only [hy, hJ, hz]);obtain ⟨P, hP⟩ : ∃ P : Nat, x * y = P := ⟨_, rfl⟩;have hPi : (x : Int) * (y : Int) = (P : Int) := by rw [← hP]; simp
     have hPB : P ≤ 999999998000000001 := by rw [← hP]; exact Nat.mul_le_mul (show x ≤ 999999999 by omega) (show y ≤ 999999999 by omega)
     rw [hP, hB'.out, hJ] at hNx;obtain ⟨q, hq⟩ : ∃ q : Nat, (P + z + c) / 1000000000 = q := ⟨_, rfl⟩;obtain ⟨r, hr⟩ : ∃ r : Nat, (P + z + c) % 1000000000 = r := ⟨_, rfl⟩;rw [hq, hr] at hNx;have hq1 : q < 1000000000 := by rw [← hB'.out]; exact hNx.bound
     have hr1 : r < 1000000000 := by omega
     have eq : ((P : Int) + z + c) / 1000000000 = q := by omega
     have er : ((P : Int) + z + c) % 1000000000 = r := by omega
     have j0 : IntKind.i64.wrap ((x : Int) * (y : Int)) = (P : Int) := by rw [hPi]; exact IntWalk.i64_in _ (by omega)
     have j1 : IntKind.i64.wrap ((P : Int) + z) = (P : Int) + z := IntWalk.i64_in _ (by omega);have j2 : IntKind.i64.wrap ((P : Int) + z + c) = (P : Int) + z + c := IntWalk.i64_in _ (by omega);have j3 : IntKind.i64.wrap ((k : Int) + (k2 : Int)) = (J : Int) := by rw [hJ2]; exact IntWalk.i64_in _ (by omega)
     have i1 : (0 : Int) ≤ (J : Int) := by omega
     have i2 : (J : Int) < (N : Int) := by omega
     have i3 : (0 : Int) ≤ (k : Int) := by omega
     have i4 : (k : Int) < ((dg a).length : Int) := by omega
     have i5 : (0 : Int) ≤ (k2 : Int) := by omega
     have i6 : (k2 : Int) < ((dg b).length : Int) := by omega
     have hbq : ∀ n, Below w.heap.size w (wr.drewN n) := fun n => hbl2.out.trans (Le.quiet n |>.mono (Nat.le_of_lt hsz2));have hownq : ∀ n, (wr.drewN n).ownsRow w.heap.size 3 1 _ N (out2.map (gv .i64)) := fun n => qAb hown2.out (Le.quiet n);have hck9 : ∀ n, (wr.drewN n).cell? ⟨w.heap.size, J, none⟩ = some (.int .i64 z) ∧ (wr.drewN n).frozen? ⟨w.heap.size, J, none⟩ = false ∧ w.heap.size < (wr.drewN n).heap.size := fun n => ⟨hckz, hfr, hsz2⟩;have ⟨hy', hz', hd', hNx', hP', hq', hr', hJ'⟩ := hyd8 hy hz hd hNx hP hq hr hJ;have ⟨hPi', hbq', hownq', hck9', j0', j1', j2', j3'⟩ := hyd8 hPi hbq hownq hck9 j0 j1 j2 j3;have ⟨hJ2', eq', er'⟩ := hyd3 hJ2 eq er;clear er eq hJ2 j3 j2 j1 j0 hck9 hownq hbq hPi hJ hr hq hP hNx hd hz hy;go_wp2;have j0 := j0'.out;have j1 := j1'.out;have j2 := j2'.out;have j3 := j3'.out;go_quiet (fail);clear j0 j1 j2 j3 j0' j1' j2' j3';rename Nat => nq
     have hbl3 := Lib.hid (hbq'.out nq);have hown3 := Lib.hid (hownq'.out nq);obtain ⟨hckz3, hfr3, hsz3⟩ := hck9'.out nq;clear hbq' hownq' hck9' hcky hckx hckz hfr hsz2 hbl2 hown2;generalize wr.drewN nq = wq at *;have hJ2 := hJ2'.out;have eq := eq'.out;have er := er'.out;go_wp2;go_roundw
     case rel => exact ⟨k2 + 1, q, out2.set J r, by omega, by go_num, by go_num, hq1, Lib.hid (by rw [List.length_set]; exact hol2.out), hNx', Lib.hid (hbl3.out.setCell (p := ⟨w.heap.size, J, none⟩) (Nat.le_refl _) _), Lib.hid (qBr (f := gv .i64) hown3.out J r)⟩
     case measure => simp [intOf]; omega
    ·obtain rfl : k2 = (dg b).length := by omega
     obtain ⟨J, hJ⟩ : ∃ J : Nat, k + (dg b).length = J := ⟨_, rfl⟩;have hJ2 : (k : Int) + ((dg b).length : Int) = (J : Int) := by omega
     have hJN : J < N := by omega
     have hJl : J < out2.length := by rw [hol2.out]; exact hJN
     have hz0 := MulRow.zero hM.out x hR.out (by rw [hJ]; exact hJl);have hckz := qBL hown2.out hol2.out (k := J) (x := 0) (by rw [List.getElem?_eq_getElem hJl]; simp only [hJ] at hz0; rw [hz0]);unfold gv at hckz;have hfr := hown2.out.frozenAt J;have hM2 := hM.out.next hlt (by rw [hx'.out]; exact hR.out) (by rw [hJ]; exact hJl);rw [hJ] at hM2;clear hz0;have ⟨hJ', hM2'⟩ := hyd2 hJ hM2;clear hM2 hJ;go_wp2;go_roundw
     case rel => exact ⟨k + 1, out2.set J c, by omega, by go_num, Lib.hid (by rw [List.length_set]; exact hol2.out), hM2', Lib.hid (hbl2.out.setCell (p := ⟨w.heap.size, J, none⟩) (Nat.le_refl _) _), Lib.hid (qBr (f := gv .i64) hown2.out J c)⟩
     case measure => simp [intOf]; omega
  ·obtain rfl : k = (dg a).length := by omega
   have hd1 := hM.out.done;rw [qA4, qA4] at hd1;have hn : ArrL L (gv .i64) wr (.slice (some ⟨w.heap.size, 0, none⟩) N N) out := ArrL.of_own hown.out hL'.out;have hlow := hM.out.low;have ⟨hd1', hlow', hM', hown'⟩ := hyd4 hd1 hlow hM hown;clear hown hM hlow hd1;go_wp2_with (first | (go_at_call 197; ((with_reducible refine (qDP L _ _ _ hn).mono ?_); rintro e w' ⟨v2, rfl, rfl, hv2⟩)));go_ret;exact ⟨_, rfl, hbl.out, qBD hv2 hlow'.out hd1'.out⟩
theorem qLQ (m : Nat) (l : List Nat) : nv (List.replicate m 0 ++ l) = B9 ^ m * nv l := by
 rw [qBm, qEp, List.length_replicate, Nat.zero_add]
theorem qFj (m a : Nat) (h : a ≠ 0) : dg (a * B9 ^ m) = List.replicate m 0 ++ dg a := by
 have hn : Norm (List.replicate m 0 ++ dg a) := by
  refine ⟨(qBh m).append (qAW a), ?_⟩;have h1 := (qEM a).2;have h2 : dg a ≠ [] := fun e => h (dg_eq_nil.1 e);rw [List.getLast?_append]
  cases e : (dg a).getLast? with
  | none => exact absurd (List.getLast?_eq_none_iff.1 e) h2
  | some g => rw [e] at h1; simpa using h1
 have e := qEZ hn;rw [qLQ, qA4, Nat.mul_comm] at e;exact e
theorem qDF (L L2 : Nat → Prop) (a m : Nat) (va : Value) (w : World) (hL : Up w L) (ha : NumL L2 .i64 w va a) (hma : (dg a).length ≤ 100000000) (hm : m ≤ 100000000) :
  Calls Tryz.prog 218 #[va, .int .i64 m] w fun e w' => ∃ v', e = .returned v' ∧ Le w w' ∧ NumL L .i64 w' v' (a * B9 ^ m) := by
 have ha0 := ha;obtain ⟨Aa, ca, rfl⟩ := ha.slice
 by_cases h0 : a = 0
 ·have hl : (dg a).length = 0 := by rw [h0, qAf]; rfl
  rw [hl];have ⟨h0', hl', hL', ha', ha0'⟩ := hyd5 h0 hl hL ha ha0;clear ha0 ha hL hl h0;go_enter Tryz.func218, Tryz.ntmps218;go_wp2;go_ret;refine ⟨_, rfl, Le.refl _, ?_⟩;unfold NumL;rw [h0'.out, Nat.zero_mul, qAf];exact ArrL.nil _ _ _
 ·have hl2 : 0 < (dg a).length := dg_length_pos.2 h0;have hl : (((dg a).length : Int) == 0) = false := beq_eq_false_iff_ne.2 (by omega);have hl3 : ¬ ((dg a).length : Int) = 0 := by omega
  have hsh := qFj m a h0;clear ha h0;have ⟨ha0', hL', hsh', hl2'⟩ := hyd4 ha0 hL hsh hl2;clear hl2 hsh hL ha0;go_enter Tryz.func218, Tryz.ntmps218;go_wp2_with (first | (at_make; go_must (refine qCW (f := gv .i64) _ rfl _ _ 56 rfl w.heap.size 3 0 8 qCR rfl (by decide) m (by go_num) (by go_num) (by omega) (Nat.le_refl _) _ rfl ?_); intro w1 r1 r2 r3; have ha1 := Lib.hid (ha0'.out.arr.below r2); have r1' := Lib.hid r1; have r2' := Lib.hid r2; have r3' := Lib.hid r3; clear r1 r2 r3) | (at_builtin; go_must (refine qAY rfl (.tmp 9) (.tmp 10) 56 rfl w.heap.size 3 .i64 8 qCR (by decide) _ (List.replicate m 0) rfl (by rw [List.length_replicate]; exact r1'.out) _ (dg a) rfl ha1.out (by simp; omega) (Nat.le_of_lt r3'.out) ?_); intro v' w' s1 s2 s3 s4; have s1' := Lib.hid s1; have s2' := Lib.hid s2; clear s1 s2 s3 s4));go_ret;refine ⟨_, rfl, r2'.out.trans s2'.out, ?_⟩;unfold NumL;rw [hsh'.out];exact ArrL.of_own s1'.out hL'.out
open Classical in
noncomputable def qGP (k : IntKind) (w : World) (v : Value) : Nat := if h : ∃ n, NumL (fun _ => True) k w v n then h.choose else 0
theorem qD2 {L : Nat → Prop} {k : IntKind} {w : World} {v : Value} {n : Nat} (h : NumL L k w v n) : qGP k w v = n := by
 have h1 : ∃ n, NumL (fun _ => True) k w v n := ⟨n, ArrL.mono h fun _ _ => trivial⟩;unfold qGP;rw [dif_pos h1];exact h1.choose_spec.unique h
theorem qBI {L : Nat → Prop} {k : IntKind} {V : World} {g : Nat} (hL : ∀ b, V.heap.size ≤ b → L b) (h0 : 0 < g) (hB : g < B9) (t : TypeId) : NumL L k (V.alloc (.cells #[.int k g] t)) (.slice (some ⟨V.heap.size, 0, none⟩) 1 1) g := by
 unfold NumL;rw [qGF hB (by omega)];refine ⟨some ⟨V.heap.size, 0, none⟩, 1, rfl, Nat.le_refl _, by unfold maxLen; omega, nofun, fun _ => ⟨V.heap.size, 0, rfl, hL _ (Nat.le_refl _), by unfold World.alloc; show V.heap.size < (V.heap.push _).size; rw [Array.size_push]; omega, fun j hj => ?_⟩⟩;have hj0 : j = 0 := by simpa using hj
 subst hj0;exact cell_of_row _ _ _ #[.int k g] t (0, 0) (by unfold World.alloc; exact Array.getElem?_push_size)
theorem NumL.top {L : Nat → Prop} {k : IntKind} {w : World} {A : Option Addr} {n c x : Nat} (h : NumL L k w (.slice A n c) x) : n = (dg x).length ∧ ∀ i (hi : i < (dg x).length), ∃ b off, A = some ⟨b, off, none⟩ ∧ w.cell? ⟨b, off + i, none⟩ = some (gv k (dg x)[i]) := by
 obtain ⟨A', c', hv, h1, h2, hN, h3⟩ := h;injection hv with e1 e2 e3;subst e1 e3;refine ⟨e2, fun i hi => ?_⟩;obtain ⟨b, off, ha, -, -, hc⟩ := h3 (by omega);exact ⟨b, off, ha, hc i hi⟩
theorem qJq {a b A C R N : Nat} (hb : 0 < b) (hab : b ≤ a) (hR : (dg a).length = R) (hN : (dg b).length = N) (h0 : 0 < N) (hA : (dg a).getD (R - 1) 0 = A) (hC : (dg b).getD (N - 1) 0 = C) (hc : ¬ (A ≤ C ∧ N < R)) :
  0 < max (A / (C + 1)) 1 ∧ max (A / (C + 1)) 1 < B9 ∧ b * B9 ^ (R - N) * max (A / (C + 1)) 1 ≤ a := by
 have hlen : (dg b).length ≤ (dg a).length := qAK hab;subst hR hN;have eA : (dg a)[(dg a).length - 1]'(by omega) = A := by rw [← hA, qA7 (by omega)]
 have eC : (dg b)[(dg b).length - 1]'(by omega) = C := by rw [← hC, qA7 (by omega)]
 have h := qKT hb hab (by omega) h0 (by rw [eA, eC]; exact hc) _ rfl;rw [eA, eC] at h;exact h
theorem qJr {a b A A2 C R N : Nat} (hb : 0 < b) (hab : b ≤ a) (hR : (dg a).length = R) (hN : (dg b).length = N) (h0 : 0 < N) (hA : (dg a).getD (R - 1) 0 = A) (hA2 : (dg a).getD (R - 2) 0 = A2) (hC : (dg b).getD (N - 1) 0 = C) (hc1 : A ≤ C) (hc2 : N < R) :
  0 < max ((A * B9 + A2) / (C + 1)) 1 ∧ max ((A * B9 + A2) / (C + 1)) 1 < B9 ∧ b * B9 ^ (R - N - 1) * max ((A * B9 + A2) / (C + 1)) 1 ≤ a := by
 subst hR hN;have eA : (dg a)[(dg a).length - 1]'(by omega) = A := by rw [← hA, qA7 (by omega)]
 have eA2 : (dg a)[(dg a).length - 2]'(by omega) = A2 := by rw [← hA2, qA7 (by omega)]
 have eC : (dg b)[(dg b).length - 1]'(by omega) = C := by rw [← hC, qA7 (by omega)]
 have h := qKU hb hab (by omega) h0 (by rw [eA, eC]; exact hc1) hc2 _ rfl;rw [eA, eA2, eC] at h;exact h
theorem qDf (L : Nat → Prop) (a b : Nat) (va vb : Value) (w : World) (hL : Up w L) (ha : NumL L .i64 w va a) (hb : NumL L .i64 w vb b) (hma : (dg a).length ≤ 10000000) (hmb : (dg b).length ≤ 10000000) (hb0 : b ≠ 0) :
  Calls Tryz.prog 209 #[va, vb] w fun e w' => ∃ v1 v2, e = .returned (.tuple #[v1, v2]) ∧ Le w w' ∧ NumL L .i64 w' v1 (a / b) ∧ NumL L .i64 w' v2 (a % b) := by
 have hb1 := hb;obtain ⟨Ab, cb, rfl⟩ := hb.slice;clear hb;obtain ⟨N, hN⟩ : ∃ N, (dg b).length = N := ⟨_, rfl⟩;have hNp : 0 < N := by rw [← hN]; exact dg_length_pos.2 hb0
 obtain ⟨n1, hn1⟩ : ∃ n1, N = n1 + 1 := ⟨N - 1, by omega⟩;rw [hN] at hb1 hmb ⊢;have hNi : (N : Int) - 1 = (n1 : Int) := by omega
 obtain ⟨bt, hbt⟩ : ∃ bt, (dg b).getD n1 0 = bt := ⟨_, rfl⟩;have hbtB : bt < 1000000000 := by rw [← hbt, ← qAS]; exact qAt (qAW _) _
 have hst : NumL L .i64 w (.slice none 0 0) 0 := by unfold NumL; rw [qAf]; exact ArrL.nil _ _ _
 have ⟨hL', ha', hb1', hN', hn1', hbt', hNi', hst'⟩ := hyd8 hL ha hb1 hN hn1 hbt hNi hst;clear hst hNi hbt hn1 hN hb1 ha hL;go_enter Tryz.func209, Tryz.ntmps209;go_wp2;go_loopw [0, 6] (fun s0 s6 wr => ∃ q r : Nat, Hid (NumL L .i64 wr s0 r) ∧ Hid (NumL L .i64 wr s6 q) ∧ Hid (Parting a b q r) ∧ Hid (Le w wr)) (fun s0 _ wr => qGP .i64 wr s0)
 case atStart => exact ⟨0, a, ha', hst', Lib.hid (Parting.start a b), Lib.hid (Le.refl _)⟩
 case round =>
  obtain ⟨q, r, hr, hq, hP, hle⟩ := hrel;obtain ⟨Ar, cr, rfl⟩ := hr.out.slice;obtain ⟨Aq, cq, rfl⟩ := hq.out.slice;have hra : r ≤ a := by have h := hP.out; unfold Parting at h; omega
  have hqa : q ≤ a := by
   have h := hP.out;unfold Parting at h;have := Nat.le_mul_of_pos_right q (Nat.pos_of_ne_zero hb0);omega
  have hrl : (dg r).length ≤ 10000000 := Nat.le_trans (qAK hra) hma;have hql : (dg q).length ≤ 10000000 := Nat.le_trans (qAK hqa) hma;obtain ⟨ob, hob⟩ : ∃ ob, ordI r b = ob := ⟨_, rfl⟩;have ho := qCI L L r b _ _ wr hr.out (hb1'.out.le hle.out);rw [hob] at ho
  by_cases hrb : r < b
  ·have hobn : ¬ (0 ≤ ob) := by rw [← hob, qDV]; omega
   obtain ⟨hd1, hd2⟩ := hP.out.done hrb;have hq2 : NumL L .i64 wr (.slice Aq (dg q).length cq) (a / b) := by rw [← hd1]; exact hq.out
   have hr2 : NumL L .i64 wr (.slice Ar (dg r).length cr) (a % b) := by rw [← hd2]; exact hr.out
   have ⟨hq2', hr2', ho', hob', hd1', hd2', hra', hqa'⟩ := hyd8 hq2 hr2 ho hob hd1 hd2 hra hqa;have ⟨hrl', hql', hrb'⟩ := hyd3 hrl hql hrb;clear hrb hql hrl hqa hra hd2 hd1 hob ho hr2 hq2;go_wp2_with (fail);go_at_call 203;refine ho'.out.mono ?_;rintro e w' ⟨rfl, nd, rfl⟩;go_wp2;go_ret2;exact ⟨_, _, rfl, hle.out.trans (Le.quiet nd), hq2'.out.le (Le.quiet nd), hr2'.out.le (Le.quiet nd)⟩
  ·have hrb : b ≤ r := Nat.le_of_not_lt hrb;have hobn : 0 ≤ ob := by rw [← hob, qDV]; exact hrb
   obtain ⟨R, hR⟩ : ∃ R, (dg r).length = R := ⟨_, rfl⟩;have hNR : N ≤ R := by rw [← hR, ← hN'.out]; exact qAK hrb
   obtain ⟨m1, hm1⟩ : ∃ m1, R = m1 + 1 := ⟨R - 1, by omega⟩;have hRi : (R : Int) - 1 = (m1 : Int) := by omega
   rw [hR] at hr hrl ho ⊢;obtain ⟨sh, hsh⟩ : ∃ sh, R = N + sh := ⟨R - N, by omega⟩;have hshi : (R : Int) - (N : Int) = (sh : Int) := by omega
   obtain ⟨top, htop⟩ : ∃ top, (dg r).getD m1 0 = top := ⟨_, rfl⟩;have htopB : top < 1000000000 := by rw [← htop, ← qAS]; exact qAt (qAW _) _
   obtain ⟨-, hcells⟩ := hr.out.top;obtain ⟨br, or_, rfl, hc1⟩ := hcells m1 (by omega)
   have hc2 : 2 ≤ R → wr.cell? ⟨br, or_ + (R - 2), none⟩ = some (gv .i64 ((dg r).getD (R - 2) 0)) := fun h2 => by
    obtain ⟨b9, o9, e9, h9⟩ := hcells (R - 2) (by omega);injection e9 with e9;injection e9 with e91 e92;subst e91 e92;rw [qA7 (by omega)];exact h9
   rw [← qA7 (by omega), htop] at hc1;unfold gv at hc1 hc2;obtain ⟨-, hcb0⟩ := (hb1'.out.le hle.out).top;obtain ⟨bb, obb, eb, hcb⟩ := hcb0 n1 (by have := hN'.out; have := hn1'.out; omega);subst eb;rw [← qA7 (by have := hN'.out; have := hn1'.out; omega), hbt'.out] at hcb;unfold gv at hcb;have hB9 := qAS;have hg : ∃ (T s x : Nat), 0 < T ∧ T < 1000000000 ∧ b * B9 ^ s * T ≤ r ∧ s ≤ 10000000 ∧ N + s ≤ R ∧ max x 1 = T ∧
    ((top ≤ bt ∧ 0 < sh ∧ (sh : Int) - 1 = (s : Int) ∧ ∃ a2 m2 tp : Nat, (R : Int) - 2 = (m2 : Int) ∧ m2 < R ∧ wr.cell? ⟨br, or_ + m2, none⟩ = some (.int .i64 (a2 : Int)) ∧ a2 < 1000000000 ∧ (top : Int) * 1000000000 + a2 = (tp : Int) ∧ (tp : Int) ≤ 1000000000000000000 ∧ (tp : Int) / ((bt : Int) + 1) = (x : Int))
     ∨ (¬ (top ≤ bt) ∧ (sh : Int) = (s : Int) ∧ (top : Int) / ((bt : Int) + 1) = (x : Int)) ∨ (top ≤ bt ∧ ¬ (0 < sh) ∧ (sh : Int) = (s : Int) ∧ (top : Int) / ((bt : Int) + 1) = (x : Int))) := by
    have hC : (dg b).getD (N - 1) 0 = bt := by rw [show N - 1 = n1 by have := hn1'.out; omega]; exact hbt'.out
    have hA : (dg r).getD (R - 1) 0 = top := by rw [show R - 1 = m1 by omega]; exact htop
    by_cases hc : top ≤ bt ∧ 0 < sh
    ·obtain ⟨a2, ha2⟩ : ∃ a2, (dg r).getD (R - 2) 0 = a2 := ⟨_, rfl⟩;have ha2B : a2 < 1000000000 := by rw [← ha2, ← qAS]; exact qAt (qAW _) _
     obtain ⟨h1, h2, h3⟩ := qJr (Nat.pos_of_ne_zero hb0) hrb hR hN'.out hNp hA ha2 hC hc.1 (by omega);rw [hB9] at h1 h2 h3;refine ⟨_, sh - 1, (top * 1000000000 + a2) / (bt + 1), h1, h2, ?_, by omega, by omega, rfl, .inl ⟨hc.1, hc.2, by omega, a2, R - 2, top * 1000000000 + a2, by omega, by omega, by rw [hc2 (by omega), ha2], ha2B, by simp, ?_, by simp⟩⟩
     ·rw [show sh - 1 = R - N - 1 by omega, hB9]; exact h3
     ·have : (top : Int) * 1000000000 ≤ 999999999 * 1000000000 := by omega
      simp; omega
    ·obtain ⟨h1, h2, h3⟩ := qJq (Nat.pos_of_ne_zero hb0) hrb hR hN'.out hNp hA hC (by omega);rw [hB9] at h2;refine ⟨_, sh, top / (bt + 1), h1, h2, ?_, by omega, by omega, rfl, .inr ?_⟩
     ·rw [show sh = R - N by omega]; exact h3
     ·by_cases h4 : top ≤ bt
      ·exact .inr ⟨h4, by omega, rfl, by simp⟩
      ·exact .inl ⟨h4, rfl, by simp⟩
   obtain ⟨T, s, x, hT0, hTB, hTs, hs, hNs, hmx, hways⟩ := hg;have hTB9 : T < B9 := by rw [hB9]; exact hTB
   have hbs : b * B9 ^ s ≠ 0 := Nat.mul_ne_zero hb0 (by have := Nat.pow_pos (n := s) (show 0 < B9 by omega); omega);have hdb : (dg (b * B9 ^ s)).length ≤ 20000000 := by rw [qFj s b hb0]; have := hN'.out; simp; omega
   have hdT : (dg T).length ≤ 10 := by rw [qGF hTB9 (by omega)]; simp
   have hdTs : (dg (T * B9 ^ s)).length ≤ 20000000 := by rw [qFj s T (by omega), qGF hTB9 (by omega)]; simp; omega
   have hmul : b * B9 ^ s * T = b * (T * B9 ^ s) := by simp only [Nat.mul_comm, Nat.mul_left_comm]
   have hP2 := hP.out.next (m := T * B9 ^ s) (by rw [← hmul]; exact hTs);rw [← hmul] at hP2
   have hlt : r - b * B9 ^ s * T < r := by
    have := Nat.mul_pos (Nat.pos_of_ne_zero hbs) hT0;omega
   obtain ⟨X, hX⟩ : ∃ X, b * B9 ^ s = X := ⟨_, rfl⟩;rw [hX] at hP2 hlt hTs hdb;obtain ⟨Y, hY⟩ : ∃ Y, X * T = Y := ⟨_, rfl⟩;rw [hY] at hP2 hlt hTs;obtain ⟨Z, hZ⟩ : ∃ Z, T * B9 ^ s = Z := ⟨_, rfl⟩;rw [hZ] at hP2 hdTs;obtain ⟨r2, hr2⟩ : ∃ r2, r - Y = r2 := ⟨_, rfl⟩;rw [hr2] at hP2 hlt;obtain ⟨q2, hq2⟩ : ∃ q2, q + Z = q2 := ⟨_, rfl⟩;rw [hq2] at hP2;clear hmul hbs;have hRl : ((dg r).length : Int) ≤ 10000000 := by omega
   have hmeas := qD2 hr.out;have q1 : n1 < N := by have := hn1'.out; omega
   have q2 : m1 < R := by omega
   have hUp : Up wr L := hL'.out.le hle.out;have hbw := hb1'.out.le hle.out;clear hc2 hcells hcb0;have ⟨hX', hY', hZ', hr2', hq2', ho', hob', hrb'⟩ := hyd8 hX hY hZ hr2 hq2 ho hob hrb;have ⟨hR', hm1', hsh', htop', hB9', hTB9', hdb', hdT'⟩ := hyd8 hR hm1 hsh htop hB9 hTB9 hdb hdT;have ⟨hdTs', hP2', hTs', hlt', hRl', hmeas', hra', hqa'⟩ := hyd8 hdTs hP2 hTs hlt hRl hmeas hra hqa;have ⟨hrl', hql', hUp', hbw', hmx'⟩ := hyd5 hrl hql hUp hbw hmx;clear hmx hbw hUp hql hrl hqa hra hmeas hRl hlt hTs hP2 hdTs hdT hdb hTB9 hB9 htop hsh hm1 hR hrb hob ho hq2 hr2 hZ hY hX
   rcases hways with ⟨w1, w2, w3, a2, m2, tp, w4, w5, hca2, w6, w7, w8, w9⟩ | ⟨w1, w3, w9⟩ | ⟨w1, w2, w3, w9⟩
   all_goals
    by_cases hx0 : x < 1
    ·obtain rfl : 0 = x := by omega
     obtain rfl : 1 = T := by have := hmx'.out; omega
     have ⟨w3', w9'⟩ := hyd2 w3 w9;clear w9 w3;go_wp2_with (fail);go_at_call 203;refine ho'.out.mono ?_;rintro e w' ⟨rfl, nd, rfl⟩;have w3 := w3'.out;have w9 := w9'.out;have hNi := hNi'.out;go_wp2_with (fail);go_at_call 218;refine (qDF L L b s _ _ (hUp'.out.le (Le.quiet nd)) (hbw'.out.le (Le.quiet nd)) (by have := hN'.out; omega) (by omega)).mono ?_;rintro e wa ⟨v1, rfl, hl1, hs1⟩;rw [hX'.out] at hs1;obtain ⟨A1, c1, rfl⟩ := hs1.slice;have hla := (Le.quiet nd).trans hl1;have hUa := hUp'.out.le (hla.trans (qAA _ (.cells #[.int .i64 ((1 : Nat) : Int)] 3)));have hsa := hs1.le (qAA _ (.cells #[.int .i64 ((1 : Nat) : Int)] 3));have hta := qBI (L := L) (k := .i64) (V := wa) (g := 1) (hUp'.out.le hla) hT0 hTB9'.out 3;have ⟨hl1', hs1', hla', hUa', hsa', hta'⟩ := hyd6 hl1 hs1 hla hUa hsa hta;clear hta hsa hUa hla hs1 hl1;go_wp2_with (fail);go_at_call 200;refine (qDw L L L X 1 _ _ _ hUa'.out hsa'.out hta'.out (by have := hdb'.out; omega) (by have := hdT'.out; omega)).mono ?_;rintro e wb ⟨v2, rfl, hl2, hs2⟩;rw [hY'.out] at hs2;obtain ⟨A2, c2, rfl⟩ := hs2.slice;have hlb := (hla'.out.trans (qAA _ (.cells #[.int .i64 ((1 : Nat) : Int)] 3))).trans hl2;have ⟨hl2', hs2', hlb'⟩ := hyd3 hl2 hs2 hlb;clear hlb hs2 hl2;go_wp2_with (fail);go_at_call 204;refine (qFA L L L r Y _ _ _ (hUp'.out.le hlb'.out) (hr.out.le hlb'.out) hs2'.out hTs'.out (by have := hRl'.out; omega)).mono ?_;rintro e wc ⟨v3, rfl, hl3, hs3⟩;rw [hr2'.out] at hs3;obtain ⟨A3, c3, rfl⟩ := hs3.slice;have hlc := hlb'.out.trans hl3;have hUc := hUp'.out.le (hlc.trans (qAA _ (.cells #[.int .i64 ((1 : Nat) : Int)] 3)))
     have htc := qBI (L := L) (k := .i64) (V := wc) (g := 1) (hUp'.out.le hlc) hT0 hTB9'.out 3;have ⟨hl3', hs3', hlc', hUc', htc'⟩ := hyd5 hl3 hs3 hlc hUc htc;clear htc hUc hlc hs3 hl3;go_wp2_with (fail);go_at_call 218;refine (qDF L L 1 s _ _ hUc'.out htc'.out (by have := hdT'.out; omega) (by omega)).mono ?_;rintro e wd ⟨v4, rfl, hl4, hs4⟩;rw [hZ'.out] at hs4;obtain ⟨A4, c4, rfl⟩ := hs4.slice;have hld := (hlc'.out.trans (qAA _ (.cells #[.int .i64 ((1 : Nat) : Int)] 3))).trans hl4;have hs3d := (hs3'.out.le (qAA _ (.cells #[.int .i64 ((1 : Nat) : Int)] 3))).le hl4;have ⟨hl4', hs4', hld', hs3d'⟩ := hyd4 hl4 hs4 hld hs3d;clear hs3d hld hs4 hl4;go_wp2_with (fail);go_at_call 202;refine (qFi L L L q Z _ _ _ (hUp'.out.le hld'.out) (hq.out.le hld'.out) hs4'.out (by have := hql'.out; omega) (by have := hdTs'.out; omega)).mono ?_;rintro e we ⟨v5, rfl, hl5, hs5⟩;rw [hq2'.out] at hs5;obtain ⟨A5, c5, rfl⟩ := hs5.slice;have hs3e := hs3d'.out.le hl5;have hle9 := (hle.out.trans hld'.out).trans hl5;have hm9 := qD2 hs3e;have ⟨hl5', hs5', hs3e', hle9', hm9'⟩ := hyd5 hl5 hs5 hs3e hle9 hm9;clear hm9 hle9 hs3e hs5 hl5;go_wp2;go_roundw
     case rel => exact ⟨_, _, hs3e', hs5', hP2', hle9'⟩
     case measure => rw [hm9'.out, hmeas'.out]; exact hlt'.out
    ·have hx1 : 1 ≤ x := by omega
     have hx2 : ¬ (x : Int) < 1 := by omega
     have hx3 : (1 : Int) ≤ (x : Int) := by omega
     obtain rfl : x = T := by have := hmx'.out; omega
     have ⟨w3', w9'⟩ := hyd2 w3 w9;clear w9 w3;go_wp2_with (fail);go_at_call 203;refine ho'.out.mono ?_;rintro e w' ⟨rfl, nd, rfl⟩;have w3 := w3'.out;have w9 := w9'.out;have hNi := hNi'.out;go_wp2_with (fail);go_at_call 218;refine (qDF L L b s _ _ (hUp'.out.le (Le.quiet nd)) (hbw'.out.le (Le.quiet nd)) (by have := hN'.out; omega) (by omega)).mono ?_;rintro e wa ⟨v1, rfl, hl1, hs1⟩;rw [hX'.out] at hs1;obtain ⟨A1, c1, rfl⟩ := hs1.slice;have hla := (Le.quiet nd).trans hl1;have hUa := hUp'.out.le (hla.trans (qAA _ (.cells #[.int .i64 ((x : Nat) : Int)] 3)));have hsa := hs1.le (qAA _ (.cells #[.int .i64 ((x : Nat) : Int)] 3));have hta := qBI (L := L) (k := .i64) (V := wa) (g := x) (hUp'.out.le hla) hT0 hTB9'.out 3;have ⟨hl1', hs1', hla', hUa', hsa', hta'⟩ := hyd6 hl1 hs1 hla hUa hsa hta;clear hta hsa hUa hla hs1 hl1;go_wp2_with (fail);go_at_call 200;refine (qDw L L L X x _ _ _ hUa'.out hsa'.out hta'.out (by have := hdb'.out; omega) (by have := hdT'.out; omega)).mono ?_;rintro e wb ⟨v2, rfl, hl2, hs2⟩;rw [hY'.out] at hs2;obtain ⟨A2, c2, rfl⟩ := hs2.slice;have hlb := (hla'.out.trans (qAA _ (.cells #[.int .i64 ((x : Nat) : Int)] 3))).trans hl2;have ⟨hl2', hs2', hlb'⟩ := hyd3 hl2 hs2 hlb;clear hlb hs2 hl2;go_wp2_with (fail);go_at_call 204;refine (qFA L L L r Y _ _ _ (hUp'.out.le hlb'.out) (hr.out.le hlb'.out) hs2'.out hTs'.out (by have := hRl'.out; omega)).mono ?_;rintro e wc ⟨v3, rfl, hl3, hs3⟩;rw [hr2'.out] at hs3;obtain ⟨A3, c3, rfl⟩ := hs3.slice;have hlc := hlb'.out.trans hl3;have hUc := hUp'.out.le (hlc.trans (qAA _ (.cells #[.int .i64 ((x : Nat) : Int)] 3)))
     have htc := qBI (L := L) (k := .i64) (V := wc) (g := x) (hUp'.out.le hlc) hT0 hTB9'.out 3;have ⟨hl3', hs3', hlc', hUc', htc'⟩ := hyd5 hl3 hs3 hlc hUc htc;clear htc hUc hlc hs3 hl3;go_wp2_with (fail);go_at_call 218;refine (qDF L L x s _ _ hUc'.out htc'.out (by have := hdT'.out; omega) (by omega)).mono ?_;rintro e wd ⟨v4, rfl, hl4, hs4⟩;rw [hZ'.out] at hs4;obtain ⟨A4, c4, rfl⟩ := hs4.slice;have hld := (hlc'.out.trans (qAA _ (.cells #[.int .i64 ((x : Nat) : Int)] 3))).trans hl4;have hs3d := (hs3'.out.le (qAA _ (.cells #[.int .i64 ((x : Nat) : Int)] 3))).le hl4;have ⟨hl4', hs4', hld', hs3d'⟩ := hyd4 hl4 hs4 hld hs3d;clear hs3d hld hs4 hl4;go_wp2_with (fail);go_at_call 202;refine (qFi L L L q Z _ _ _ (hUp'.out.le hld'.out) (hq.out.le hld'.out) hs4'.out (by have := hql'.out; omega) (by have := hdTs'.out; omega)).mono ?_;rintro e we ⟨v5, rfl, hl5, hs5⟩;rw [hq2'.out] at hs5;obtain ⟨A5, c5, rfl⟩ := hs5.slice;have hs3e := hs3d'.out.le hl5;have hle9 := (hle.out.trans hld'.out).trans hl5;have hm9 := qD2 hs3e;have ⟨hl5', hs5', hs3e', hle9', hm9'⟩ := hyd5 hl5 hs5 hs3e hle9 hm9;clear hm9 hle9 hs3e hs5 hl5;go_wp2;go_roundw
     case rel => exact ⟨_, _, hs3e', hs5', hP2', hle9'⟩
     case measure => rw [hm9'.out, hmeas'.out]; exact hlt'.out

theorem qF0 (L : Nat → Prop) (a b : Nat) (va vb : Value) (w : World) (hL : Up w L) (ha : NumL L .i64 w va a) (hb : NumL L .i64 w vb b) (hma : (dg a).length ≤ 10000000) (hmb : (dg b).length ≤ 10000000) :
  Calls Tryz.prog 207 #[va, vb] w fun e w' => ∃ v', e = .returned v' ∧ Le w w' ∧ NumL L .i64 w' v' (Nat.gcd a b) := by
 have ⟨hL', ha', hb'⟩ := hyd3 hL ha hb;clear hb ha hL;go_enter Tryz.func207, Tryz.ntmps207;go_wp2;go_loopw [0, 1] (fun s0 s1 wr => ∃ x y : Nat, Hid (NumL L .i64 wr s0 x) ∧ Hid (NumL L .i64 wr s1 y) ∧ Hid (Nat.gcd x y = Nat.gcd a b) ∧ (dg x).length ≤ 10000000 ∧ (dg y).length ≤ 10000000 ∧ Hid (Le w wr)) (fun _ s1 wr => qGP .i64 wr s1)
 case atStart => exact ⟨a, b, ha', hb', Lib.hid rfl, hma, hmb, Lib.hid (Le.refl _)⟩
 case round =>
  obtain ⟨x, y, hx, hy, hg, lx, ly, hle⟩ := hrel;obtain ⟨Ax, cx, rfl⟩ := hx.out.slice;obtain ⟨Ay, cy, rfl⟩ := hy.out.slice
  by_cases h0 : y = 0
  ·have hl0 : (dg y).length = 0 := by rw [h0, qAf]; rfl
   have hres : NumL L .i64 wr (.slice Ax (dg x).length cx) (Nat.gcd a b) := by rw [← hg.out, h0, Nat.gcd_zero_right]; exact hx.out
   have hli : ¬ (0 < ((dg y).length : Int)) := by omega
   have ⟨h0', hres', hl0'⟩ := hyd3 h0 hres hl0;clear hl0 hres h0;go_wp2;go_ret;exact ⟨_, rfl, hle.out, hres'.out⟩
  ·have hl0 : 0 < (dg y).length := dg_length_pos.2 h0;have hli : 0 < ((dg y).length : Int) := by omega
   go_wp2_with (fail);go_at_call 209;refine (qDf L x y _ _ wr (hL'.out.le hle.out) hx.out hy.out lx ly h0).mono ?_;rintro e w' ⟨v1, v2, rfl, hle2, -, hr⟩;obtain ⟨A2, c2, rfl⟩ := hr.slice;have hlt : x % y < y := Nat.mod_lt _ (Nat.pos_of_ne_zero h0);have hm1 := qD2 hy.out;have hm2 := qD2 hr;have hy2 := hy.out.le hle2;have hg2 : Nat.gcd y (x % y) = Nat.gcd a b := by rw [qIF]; exact hg.out
   have hlr : (dg (x % y)).length ≤ 10000000 := Nat.le_trans (qAK (Nat.le_of_lt hlt)) ly;have hle3 := hle.out.trans hle2;have ⟨hle2', hr', hlt', hm1', hm2', hy2', hg2', hle3'⟩ := hyd8 hle2 hr hlt hm1 hm2 hy2 hg2 hle3;clear hle3 hg2 hy2 hm2 hm1 hlt hr hle2;go_wp2;go_roundw
   case rel => exact ⟨y, x % y, hy2', hr', hg2', ly, hlr, hle3'⟩
   case measure => rw [hm2'.out, hm1'.out]; exact hlt'.out
end Go.Proofs.YtabfaobakmjiaaaGreat
