/- motion.Points: the spots of a path. -/
import Derived.Test.YtabfaobakmjiaaaGreatPk39
import Derived.Test.YtabfaobakmjiaaaGreatPk40
namespace Go.Proofs.YtabfaobakmjiaaaGreat
set_option maxRecDepth 100000
set_option maxHeartbeats 2000000
open Go.RowKit Go.Shelf
set_option linter.unusedVariables false
set_option linter.unusedSimpArgs false
theorem qIq {w : World} {base e size n : Nat} {v : Value} {xs : List Value} (h : w.ownsRow base e size v n xs) : ∀ (a : Addr) (m k : Nat), v = .slice (some a) m k → ∃ cs, w.heap[a.block]? = some (.cells cs e) := fun a k c q => by
 rcases h.2 with ⟨rfl, -⟩ | ⟨g, cap, cur, rfl, -, hg, -⟩
 ·cases q
 ·injection q with q1;injection q1 with q1;subst q1;exact ⟨_, hg⟩
def qJ4 (res : Except Int (List (Int × Int))) (w : World) (e : Ending) (w' : World) : Prop := Le w w' ∧ ∃ v c, e = .returned (.tuple #[v, .int .i64 c]) ∧ match res with
 | .ok L => SpotsV w' v L ∧ c = 0 ∧ ∀ (a : Addr) (n k : Nat), v = .slice (some a) n k → ∃ cs, w'.heap[a.block]? = some (.cells cs 41)
 | .error z => v = .slice none 0 0 ∧ c = z
theorem qL1 {u : FracA × FracA} {s : G2} {a : ArmA} {z : Int} (h : armG u s a = .error z) : z ≠ 0 := by
 obtain ⟨k, c⟩ := a
 cases hP : powG u k with
 | error y => rw [qHG hP] at h; injection h with h; subst h; exact qGB hP
 | ok x =>
  cases hM : mulG c (qAR x) with
  | error y => rw [qHH hP hM] at h; injection h with h; subst h; exact qDm hM
  | ok y => rw [qEX hP hM] at h; exact qDm h
theorem qDi {u : FracA × FracA} {z : Int} : ∀ (l : List ArmA) {s : G2}, qAl u s l = .error z → z ≠ 0
 | [], s, h => by cases h
 | a :: l, s, h => by
  unfold qAl at h
  split at h
  ·rename_i y hy; injection h with h; subst h; exact qL1 hy
  ·exact qDi l h
theorem qHK {x : FracA × FracA} {z : Int} (h : qBB x = .error z) : z ≠ 0 ∧ spE (qBB x) = (0, 0, z) := by
 rw [h];refine ⟨?_, rfl⟩;unfold qBB at h
 split at h
 ·rename_i h1; injection h with h; subst h; exact h1
 ·split at h
  ·rename_i h1; injection h with h; subst h; exact h1
  ·split at h
   ·cases h
   ·injection h with h; subst h; decide
theorem qIr (n : Nat) (h : 0 < n) : TSz gi n := by
 have := qDh 1 n h
 rwa [show gpow gi 1 = gi from by unfold gpow gpow; exact qCs gi] at this
theorem qMI : ∀ g, tval iG = some g → TSz g 2 := fun g hg => by
 rw [qKE, qBT (qIr 40 (by decide))] at hg;injection hg with hg;rw [← hg];exact qIr 2 (by decide)
theorem qBE {w : World} {base e size n : Nat} {v : Value} {xs : List Value} (h : w.ownsRow base e size v n xs) : ∃ A c, v = .slice A n c := by
 rcases h.2 with ⟨rfl, rfl⟩ | ⟨g, cap, cur, rfl, _⟩
 ·exact ⟨none, 0, rfl⟩
 ·exact ⟨_, cap, rfl⟩
theorem qCf {l : List ArmA} {m : Nat} (h : qB3 l = 0) (h0 : 1 ≤ (m : Int)) (h1 : (m : Int) ≤ 16) : qA9 l (m : Int) = qBA l m (4 * m) := by
 unfold qA9;rw [if_neg (by simpa using h), if_pos ⟨h0, h1⟩, Int.toNat_natCast]
theorem qMJ {a b : Int} (h0 : 0 ≤ a) (h1 : a ≤ 1000) (hb : 1 ≤ b) : -9223372036854775808 ≤ a / b ∧ a / b ≤ 9223372036854775807 := by
 have h2 := Int.ediv_nonneg h0 (show (0 : Int) ≤ b by omega);have h3 := Int.ediv_le_self b h0;omega
theorem qIs {s : Nat} (h : s ≤ 1000) : -9223372036854775808 ≤ (s : Int) ∧ (s : Int) ≤ 9223372036854775807 := by omega
structure PtI (W1 : World) (t : TypeId) (l : List ArmA) (n idx : Nat) (v : Value) (W : World) : Prop where
 le : Le W1 W
 row : ∃ L, qBA l n idx = .ok L ∧ W.ownsRow W1.heap.size t 2 v L.length (qBP L)
theorem qJQ (l : List ArmA) (n : Int) (v : Value) (w : World) (hv : ArmsL w v l) : Calls Tryz.prog 11 #[v, .int .i64 n] w (qJ4 (qA9 l n) w) := by
 obtain ⟨A, c, rfl, hlc, -⟩ := id hv;have hchk := qHC l _ w hv;have hlen := qF5 l;obtain ⟨E, hE⟩ : ∃ E, qB3 l = E := ⟨_, rfl⟩;rw [hE] at hchk;have ⟨hv', hchk', hE', hlen'⟩ := hyd4 hv hchk hE hlen;clear hlen hE hchk hv;go_enter Tryz.func11, Tryz.ntmps11;go_wp2_with (fail);go_at_call 37;refine hchk'.out.mono ?_;rintro e W1 ⟨rfl, hle1⟩
 by_cases hE0 : E = 0
 ·subst hE0;have hle1' := hyd1 hle1;clear hle1;go_wp2_with (fail);go_at_call 38;refine (qB9 n 1 16 W1).mono ?_;rintro e w2 ⟨rfl, rfl⟩
  by_cases hn : qAJ n 1 16 = true
  ·have hn1 : 1 ≤ n ∧ n ≤ 16 := by simpa [qAJ] using hn
   obtain ⟨m, rfl⟩ : ∃ m : Nat, n = (m : Int) := ⟨n.toNat, by omega⟩;obtain ⟨hm0, hm1⟩ := hn1;rw [hn];have har := qHf 1 1 W1 (by decide) (by decide) (by decide) (by decide);have ⟨hn', har'⟩ := hyd2 hn har;clear har hn;go_wp2_with (fail);go_at_call 39;refine har'.out.mono ?_;rintro e W3 ⟨hle3, v3, c3, rfl, hr3⟩;have hA3 := hr3.isAV;obtain ⟨is1, iA1, in1, ic1, it1, iB1, im1, id1, is2, iA2, in2, ic2, it2, iB2, im2, id2, rfl⟩ := hr3.form;obtain ⟨W4, hW4, hleW4, kI⟩ := al1 W3 (.cells #[.bool is1, .slice iA1 in1 ic1, .bool it1, .slice iB1 im1 id1, .bool is2, .slice iA2 in2 ic2, .bool it2, .slice iB2 im2 id2] 79);have hI0 : PtI W4 41 l m 0 (.slice none 0 0) W4 := ⟨Le.refl _, [], rfl, World.ownsRow_nil _ _ _ _⟩;have hA4 := hA3.le hleW4;have hvL := hv'.out.le (hle1'.out.trans (hle3.trans hleW4));have hleA := hle1'.out.trans (hle3.trans hleW4);have ⟨hle3', hr3', hA3', hleW4', kI', hI0', hA4', hvL'⟩ := hyd8 hle3 hr3 hA3 hleW4 kI hI0 hA4 hvL;have hleA' := hyd1 hleA;clear hleA hvL hA4 hI0 kI hleW4 hA3 hr3 hle3;go_wp2_with (fail);clear hW4;generalize hBI : W3.heap.size = BI at kI' ⊢;have hBI' := hyd1 hBI;clear hBI;have j1 : (m : Int) ≤ 16 := by omega
   go_loopw [32, 9] (fun ix vl wr => ∃ idx : Nat, idx ≤ 4 * m ∧ ix = .int .i64 idx ∧ Hid (PtI W4 41 l m idx vl wr)) (fun ix _ _ => 4 * m - (intOf ix).toNat)
   case atStart => exact ⟨0, Nat.zero_le _, rfl, hI0'⟩
   case round =>
    obtain ⟨idx, hix, rfl, hI⟩ := hrel;obtain ⟨hle2, L, hL, hrow⟩ := hI.out;obtain ⟨AL, cL, rfl⟩ := qBE hrow
    by_cases hlt : idx < 4 * m
    ·have i1 : (idx : Int) < 4 * (m : Int) := by omega
     have i2 : (0 : Int) ≤ (idx : Int) := by omega
     have hmne : ¬ (m : Int) = 0 := by omega
     have hquo : -9223372036854775808 ≤ (idx : Int) / (m : Int) ∧ (idx : Int) / (m : Int) ≤ 9223372036854775807 := qMJ i2 (by omega) (by omega);have hpow := fun (W : World) (h : Le wr W) => qIk iG ((idx / m : Nat) : Int) _ W ((hA4'.out.le hle2).le h) (qMI);obtain ⟨P1, hP1⟩ : ∃ P, powG iG ((idx / m : Nat) : Int) = P := ⟨_, rfl⟩;rw [hP1] at hpow;have kI1 := bxl hle2 kI'.out;have ⟨hI', hle2', hL', hrow', hquo', hmne', hpow', hP1'⟩ := hyd8 hI hle2 hL hrow hquo hmne hpow hP1;have kI1' := hyd1 kI1;clear kI1 hP1 hpow hmne hquo hrow hL hle2 hI;go_wp2_with (fail);refine qCA (R := resRel) 10 [some 36, some 37, some 38, some 39, some 40, some 35, some 41, some 42, some 11, none, some 12] [[], [], [], [1, 2], [0, 3], [4], [5], [5], [], [6, 8], [7]]
      [.eq (.agg #[.bool is1, .slice iA1 in1 ic1, .bool it1, .slice iB1 im1 id1, .bool is2, .slice iA2 in2 ic2, .bool it2, .slice iB2 im2 id2]), .eq (.int .i64 (idx : Nat)), .eq (.int .i64 (m : Nat)), .eq (.int .i64 ((idx / m : Nat) : Int)), RPred.pair P1, RPred.pair P1, RPred.val P1, .eq (.int .i64 (codeG P1)), MPredR.any, MPredR.any] (GBox8 6 8 9 wr 79) (fun _ _ => False) (by kernel_rfl) (by kernel_rfl) (by kernel_rfl) (by kernel_rfl) (by kernel_rfl) (GBox8.start 6 8 9 wr 79 _ (by decide)) ?_ (fun _ _ _ _ h => h.elim) ?_
     ·simp only [List.take_succ_cons, List.take_zero];refine sGc rfl ?_ (sGc rfl ?_ (sGc rfl ?_ (sGc rfl ?_ (sGc rfl ?_ (sGc rfl ?_ (sGc rfl ?_ (sGc rfl ?_ (sGc rfl ?_ (sGc rfl ?_ (qBo))))))))))
      ·intro Dn xv W hD hdp hR hf hG Q hK hP;have hRb := hG.1;obtain ⟨z0, z1, z2, z3, z4, z5, z6, z7⟩ := qAB (bxl hRb kI1'.out);clear hRb;simp only [fA] at hK ⊢;have hG' := hyd1 hG;clear hG;go_wp2;exact hK _ _ (qAU (Le.refl _)) rfl (hG'.out.keep rfl (Le.refl _))
      ·intro Dn xv W hD hdp hR hf hG Q hK hP;simp only [fA] at hK ⊢;have hG' := hyd1 hG;clear hG;go_wp2;exact hK _ _ (qAU (Le.refl _)) rfl (hG'.out.keep rfl (Le.refl _))
      ·intro Dn xv W hD hdp hR hf hG Q hK hP;simp only [fA] at hK ⊢;have hG' := hyd1 hG;clear hG;go_wp2;exact hK _ _ (qAU (Le.refl _)) rfl (hG'.out.keep rfl (Le.refl _))
      ·intro Dn xv W hD hdp hR hf hG Q hK hP;obtain ⟨e0, e1, -⟩ := hf;change _ = _ at e0 e1;have hRb := hG.1;have hmz := hmne'.out;obtain ⟨hq1, hq2⟩ := hquo'.out;clear hRb;simp only [fA, e0, e1] at hK ⊢;have hG' := hyd1 hG;clear hG;go_wp2;exact hK _ _ (qAU (Le.refl _)) rfl (hG'.out.keep rfl (Le.refl _))
      ·intro Dn xv W hD hdp hR hf hG Q hK hP;obtain ⟨e0, e1, -⟩ := hf;change _ = _ at e0 e1;have hcl := hpow'.out W hG.1;simp only [fA, e0, e1] at hK ⊢;have ⟨hG', hcl'⟩ := hyd2 hG hcl;clear hcl hG;go_wp2_with (fail);go_at_call 40;refine hcl'.out.mono ?_;rintro e w' ⟨y1, v1, cc, rfl, hr⟩;have hcc := hr.codeG;subst hcc;have ⟨y1', hr'⟩ := hyd2 y1 hr;clear hr y1;go_wp2;exact hK _ _ (qAU y1'.out) ⟨_, rfl, hr'.out⟩ (hG'.out.keep rfl y1'.out)
      ·intro Dn xv W hD hdp hR hf hG Q hK hP;obtain ⟨e0, -⟩ := hf;replace e0 : ∃ v', (xv 4) = .tuple #[v', .int .i64 (codeG P1)] ∧ IsResT W v' (codeG P1) P1 := e0;obtain ⟨vv, qv, hv1⟩ := e0;have hv2 := hv1;obtain ⟨fs1, fA1, fn1, fc1, ft1, fB1, fm1, fd1, fs2, fA2, fn2, fc2, ft2, fB2, fm2, fd2, rfl⟩ := hv1.form;clear hv1;have hv2' := hyd1 hv2;clear hv2;simp only [fA, qv] at hK ⊢;have qv9 := qv;clear qv qv9;have hG' := hyd1 hG;clear hG;go_wp2;exact hK _ _ (qAU (Le.refl _)) ⟨_, rfl, hv2'.out⟩ (hG'.out.keep rfl (Le.refl _))
      ·intro Dn xv W hD hdp hR hf hG Q hK hP;obtain ⟨e0, -⟩ := hf;replace e0 : ∃ v', (xv 5) = .tuple #[v', .int .i64 (codeG P1)] ∧ IsResT W v' (codeG P1) P1 := e0;obtain ⟨vv, qv, hv1⟩ := e0;have hv2 := hv1;obtain ⟨fs1, fA1, fn1, fc1, ft1, fB1, fm1, fd1, fs2, fA2, fn2, fc2, ft2, fB2, fm2, fd2, rfl⟩ := hv1.form;clear hv1;have hv2' := hyd1 hv2;clear hv2;simp only [fA, qv] at hK ⊢;have qv9 := qv;clear qv qv9;have hG' := hyd1 hG;clear hG;go_wp2;exact hK _ _ (qAU (Le.refl _)) hv2'.out (hG'.out.take hD rfl)
      ·intro Dn xv W hD hdp hR hf hG Q hK hP;obtain ⟨e0, -⟩ := hf;replace e0 : ∃ v', (xv 5) = .tuple #[v', .int .i64 (codeG P1)] ∧ IsResT W v' (codeG P1) P1 := e0;obtain ⟨vv, qv, hv1⟩ := e0;have hv2 := hv1;obtain ⟨fs1, fA1, fn1, fc1, ft1, fB1, fm1, fd1, fs2, fA2, fn2, fc2, ft2, fB2, fm2, fd2, rfl⟩ := hv1.form;clear hv1;have hv2' := hyd1 hv2;clear hv2;simp only [fA, qv] at hK ⊢;have qv9 := qv;clear qv qv9;have hG' := hyd1 hG;clear hG;go_wp2;exact hK _ _ (qAU (Le.refl _)) rfl (hG'.out.keep rfl (Le.refl _))
      ·intro Dn xv W hD hdp hR hf hG Q hK hP;simp only [fA] at hK ⊢;have hG' := hyd1 hG;clear hG;go_wp2;exact hK _ _ (qAU (qAA _ _)) trivial (hG'.out.make hD rfl)
      ·intro Dn xv W hD hdp hR hf hG Q hK hP;obtain ⟨e0, e1, -⟩ := hf;have d0 := hdp 6 (by decide);have d1 := hdp 8 (by decide);replace e0 : IsResT W (xv 6) (codeG P1) P1 := e0;obtain ⟨kb, qb, hkb, hxb⟩ := hG.ready d1 hD;obtain ⟨fs1, fA1, fn1, fc1, ft1, fB1, fm1, fd1, fs2, fA2, fn2, fc2, ft2, fB2, fm2, fd2, qv⟩ := IsResT.form e0;have hput := hG.put (v := undef) d1 d0 qb hkb hxb qv rfl;simp only [fA, qv, qb] at hK ⊢;obtain ⟨z0, z1, z2, z3, z4, z5, z6, z7⟩ := qAB hxb;have ⟨y0, y1, y2, y3, y4, y5, y6, y7⟩ := frz8 hxb;clear qv qb;clear e0 e1;have ⟨hput', hG', hxb'⟩ := hyd3 hput hG hxb;clear hxb hG hput;go_wp2;exact hK undef _ hput'.out.2 trivial hput'.out.1
     ·intro Dn xv V11 hD hR hf hG Q' hQ1 _;have e2 : IsResT V11 (xv 6) (codeG P1) P1 := hf 6 (by decide);have e1 : xv 7 = .int .i64 (codeG P1) := hf 7 (by decide);obtain ⟨kb11, qb, hkb11, xs1, xA1, xn1, xc1, xt1, xB1, xm1, xd1, xs2, xA2, xn2, xc2, xt2, xB2, xm2, xd2, qv, kV11⟩ := hG.full (hD 8 (by decide)) (hD 9 (by decide));have hleV11 := hG.1;rw [qv] at e2;have frV11 := e2;simp only [List.drop_succ_cons, List.drop_zero];rw [show List.range 10 = [0, 1, 2, 3, 4, 5, 6, 7, 8, 9] from rfl];simp only [fA, qv, e1, qb];clear qv e1 qb hf e2 hG hD hR;have ⟨hleV11', kV11', frV11'⟩ := hyd3 hleV11 kV11 frV11;clear frV11 kV11 hleV11;go_wp2;refine hQ1 _ _ ?_;clear hQ1;have hleV := hle2'.out.trans hleV11'.out;have hmodm : idx % m ≤ 1000 := by have := Nat.mod_lt idx (show 0 < m by omega); omega
      have har2 := qHf ((idx % m : Nat) : Int) (m : Int) V11 (qIs hmodm).1 (qIs hmodm).2 (by omega) (by omega);obtain ⟨hrem1, hrem2⟩ : -9223372036854775808 ≤ (idx : Int) % (m : Int) ∧ (idx : Int) % (m : Int) ≤ 9223372036854775807 := qIs hmodm;have ⟨hleV', har2', hmodm'⟩ := hyd3 hleV har2 hmodm;clear hmodm har2 hleV;have hmne : ¬ (m : Int) = 0 := by omega
      go_wp2_with (fail);go_at_call 39;refine har2'.out.mono ?_;rintro e W12 ⟨hle12, v12, c12, rfl, hr12⟩;have hA12 := hr12.isAV;obtain ⟨qs1, qA1, qn1, qc1, qt1, qB1, qm1, qd1, qs2, qA2, qn2, qc2, qt2, qB2, qm2, qd2, rfl⟩ := hr12.form;obtain ⟨W13, hW13, hleW13, kq⟩ := al1 W12 (.cells #[.bool qs1, .slice qA1 qn1 qc1, .bool qt1, .slice qB1 qm1 qd1, .bool qs2, .slice qA2 qn2 qc2, .bool qt2, .slice qB2 qm2 qd2] 79);have kx := bxl (hle12.trans hleW13) kV11'.out;obtain ⟨z0, z1, z2, z3, z4, z5, z6, z7⟩ := qAB kx;obtain ⟨g0, g1, g2, g3, g4, g5, g6, g7⟩ := qAB kq;have hmul := qG3 (qBG P1) (qBG (qAu ((idx % m : Nat) : Int) (m : Int))) _ _ W13 ((frV11'.out.le (hle12.trans hleW13)).isAV) (hA12.le hleW13);change Calls Tryz.prog 41 _ W13 (qAi (mulG (qBG P1) (qBG (qAu ((idx % m : Nat) : Int) (m : Int)))) W13) at hmul;have hle13 := hleV'.out.trans (hle12.trans hleW13);have ⟨hle12', hr12', hA12', hleW13', kq', kx', hmul', hle13'⟩ := hyd8 hle12 hr12 hA12 hleW13 kq kx hmul hle13;clear hle13 hmul kx kq hleW13 hA12 hr12 hle12;go_wp2_with (fail);clear hW13;go_at_call 41;refine hmul'.out.mono ?_;rintro e W14 ⟨hle14, v14, c14, rfl, hr14⟩;clear z0 z1 z2 z3 z4 z5 z6 z7 g0 g1 g2 g3 g4 g5 g6 g7;have k14 := bxl hle14 kq'.out;obtain ⟨ms1, mA1, mn1, mc1, mt1, mB1, mm1, md1, ms2, mA2, mn2, mc2, mt2, mB2, mm2, md2, rfl⟩ := hr14.form;obtain ⟨g0, g1, g2, g3, g4, g5, g6, g7⟩ := qAB k14;have ⟨k0, k1, k2, k3, k4, k5, k6, k7⟩ := frz8 k14;obtain ⟨V15, hV15⟩ : ∃ V, ((((((((W14.setCell ⟨W12.heap.size, 0, none⟩ (.bool ms1)).setCell ⟨W12.heap.size, 1, none⟩ (.slice mA1 mn1 mc1)).setCell ⟨W12.heap.size, 2, none⟩ (.bool mt1)).setCell ⟨W12.heap.size, 3, none⟩ (.slice mB1 mm1 md1)).setCell ⟨W12.heap.size, 4, none⟩ (.bool ms2)).setCell ⟨W12.heap.size, 5, none⟩ (.slice mA2 mn2 mc2)).setCell ⟨W12.heap.size, 6, none⟩ (.bool mt2)).setCell ⟨W12.heap.size, 7, none⟩ (.slice mB2 mm2 md2)) = V := ⟨_, rfl⟩
      have ht := qAM W14 W12.heap.size (.bool ms1) (.slice mA1 mn1 mc1) (.bool mt1) (.slice mB1 mm1 md1) (.bool ms2) (.slice mA2 mn2 mc2) (.bool mt2) (.slice mB2 mm2 md2);have hr15 : IsResT V15 (.agg #[.bool ms1, .slice mA1 mn1 mc1, .bool mt1, .slice mB1 mm1 md1, .bool ms2, .slice mA2 mn2 mc2, .bool mt2, .slice mB2 mm2 md2]) c14 (mulG (qBG P1) (qBG (qAu ((idx % m : Nat) : Int) (m : Int)))) := by rw [← hV15]; exact hr14.touch (qAa k14) ht
      have k15 : V15.heap[W12.heap.size]? = some (.cells #[.bool ms1, .slice mA1 mn1 mc1, .bool mt1, .slice mB1 mm1 md1, .bool ms2, .slice mA2 mn2 mc2, .bool mt2, .slice mB2 mm2 md2] 79) := by rw [← hV15]; exact qAL k14 _ _ _ _ _ _ _ _
      have hle15 : Le wr V15 := by
       rw [← hV15];exact qAV (hleV11'.out.trans (hle12'.out.trans (hleW13'.out.trans hle14))) (by have := hleV11'.out.size; have := hle12'.out.size; omega) _ _ _ _ _ _ _ _
      have hA15 := hr15.isAV;obtain ⟨ug, hug, hgu, -⟩ := qLc (n := m) (k := idx / m) (s := idx % m) (by omega) (by omega) (by have := Nat.div_lt_iff_lt_mul (x := idx) (y := 4) (show 0 < m by omega); omega) (Nat.mod_lt _ (by omega));rw [Nat.mul_comm (idx / m) m, Nat.div_add_mod] at hgu;clear hrem1 hrem2;have huA : uA m idx = qBG (mulG (qBG P1) (qBG (qAu ((idx % m : Nat) : Int) (m : Int)))) := by unfold uA; rw [hP1'.out]
      have hl25 : l.length ≤ 1000 := by rcases hlen'.out with ⟨-, h, -⟩ | ⟨h, -⟩; omega; exact absurd hE'.out h
      have hpl := qKG l (uA m idx) _ _ V15 (hvL'.out.le (hle2'.out.trans hle15)) (by rw [huA]; exact hA15) (fun g h => by rw [hgu, qBT (hug.up (by decide))] at h; injection h with h; rw [← h]; exact hug) hl25;obtain ⟨h0, h1, h2, h3, h4, h5, h6, h7⟩ := qAB k15;have hle215 := hle2'.out.trans hle15;have ⟨hle14', hr14', k14', ht', hr15', k15', hle15', hA15'⟩ := hyd8 hle14 hr14 k14 ht hr15 k15 hle15 hA15;have ⟨hug', hgu', huA', hl25', hpl', hle215'⟩ := hyd6 hug hgu huA hl25 hpl hle215;clear hle215 hpl hl25 huA hgu hug hA15 hle15 k15 hr15 ht k14 hr14 hle14;go_wp2_with (fail);clear hV15;go_at_call 42;refine hpl'.out.mono ?_;rintro e W16 ⟨hle16, v16, c16, rfl, hr16⟩;clear g0 g1 g2 g3 g4 g5 g6 g7 k0 k1 k2 k3 k4 k5 k6 k7 h0 h1 h2 h3 h4 h5 h6 h7;obtain ⟨rs1, rA1, rn1, rc1, rt1, rB1, rm1, rd1, rs2, rA2, rn2, rc2, rt2, rB2, rm2, rd2, rfl⟩ := hr16.form;obtain ⟨W17, hW17, hleW17, k17⟩ := al1 W16 (.cells #[.bool rs1, .slice rA1 rn1 rc1, .bool rt1, .slice rB1 rm1 rd1, .bool rs2, .slice rA2 rn2 rc2, .bool rt2, .slice rB2 rm2 rd2] 79);have hle217 := hle215'.out.trans (hle16.trans hleW17)
      by_cases hc : c16 = 0
      ·subst hc
       obtain ⟨pg, hPL, hf16⟩ : ∃ g, qAl (uA m idx) (0, 0) l = .ok g ∧ TurnF W16 _ g := by
        cases hPL : qAl (uA m idx) (0, 0) l with
        | error z => rw [hPL] at hr16; exact absurd hr16.2.symm (qDi _ hPL)
        | ok g => rw [hPL] at hr16; exact ⟨g, rfl, hr16.1⟩
       have hnear := qIo (qAR pg) _ W17 (hf16.le hleW17).isAV;obtain ⟨g0, g1, g2, g3, g4, g5, g6, g7⟩ := qAB k17;have ⟨hle16', hr16', hleW17', k17', hPL', hf16', hnear', hle217'⟩ := hyd8 hle16 hr16 hleW17 k17 hPL hf16 hnear hle217;clear hle217 hnear hf16 hPL k17 hleW17 hr16 hle16;go_wp2_with (fail);clear hW17;go_at_call 43;refine hnear'.out.mono ?_;rintro e W18 ⟨hle18, rfl⟩;clear g0 g1 g2 g3 g4 g5 g6 g7;obtain ⟨X, Y, Z, hsp⟩ : ∃ X Y Z, spE (qBB (qAR pg)) = (X, Y, Z) := ⟨_, _, _, rfl⟩;rw [hsp];dsimp only;obtain ⟨W19, hW19, hle19, k19⟩ := al1 W18 (.cells #[.int .i64 X, .int .i64 Y] 41);have hle219 := hle217'.out.trans (hle18.trans hle19)
       by_cases hZ : Z = 0
       ·subst hZ
        have hok : qBB (qAR pg) = .ok (X, Y) := by
         cases hv : qBB (qAR pg) with
         | error z => rw [hv] at hsp; injection hsp with h1 h2; injection h2 with h2 h3; exact absurd h3 (qHK hv).1
         | ok q => rw [hv] at hsp; injection hsp with h1 h2; injection h2 with h2 h3; rw [← h1, ← h2]
        obtain ⟨mi, hmi, hz0, hz1, hzb⟩ := info_parts qKu;have hr19 := hle15'.out.trans (hle16'.out.trans (hleW17'.out.trans (hle18.trans hle19)));have hrow3 := qAb hrow'.out hr19;have hnew := qLd W19 (X, Y) 41;have hen : ∀ u ∈ [Value.int .i64 X, Value.int .i64 Y], u.oneCell' = true := by intro u hu; simp at hu; rcases hu with rfl | rfl <;> rfl
        have hlen2 := qCd hL'.out;have hrl := hrow3.lt;have hspA : qBX l m idx = .ok (X, Y) := by unfold qBX; rw [hPL'.out]; exact hok
        have hmore := qF7 hL'.out hspA;have hsz19 := hle219.size;have hL64 : L.length < 64 := by omega
        obtain ⟨s0, s1⟩ := qAx k19;have ⟨hle18', hsp', hle19', k19', hle219', hok', hr19', hrow3'⟩ := hyd8 hle18 hsp hle19 k19 hle219 hok hr19 hrow3;have ⟨hnew', hen', hrl', hspA', hmore', hz0', hz1', hzb'⟩ := hyd8 hnew hen hrl hspA hmore hz0 hz1 hzb;have hlen2' := hyd1 hlen2;clear hlen2 hzb hz1 hz0 hmore hspA hrl hen hnew hrow3 hr19 hok hle219 k19 hle19 hsp hle18;go_wp2_with (first | (at_builtin; go_must (refine qD7 _ rfl _ _ 23 rfl W4.heap.size 41 mi _ 2 16 Tryz.underlying23 hmi hz0'.out hz1'.out hzb'.out rfl (by decide) (.slice AL L.length cL) L.length (qBP L) rfl (hrow3'.out.alloc _) ⟨W19.heap.size, 0, none⟩ 1 1 [.int .i64 X, .int .i64 Y] rfl rfl hnew'.out hen'.out (by unfold maxLen; omega) (by omega) (by simp; omega) ?_)));intro v4 W5 hown4 hg4 hwh4;obtain ⟨A4, c4, rfl⟩ := qBE hown4;have hle5 : Le W4 W5 := (hle219'.out.alloc (by omega) _).grown hg4 (by simp; omega) (fun k e => (hrl'.out k e).1);have hln : (L ++ [(X, Y)]).length = L.length + 1 := by simp
        have hI2 : PtI W4 41 l m (idx + 1) (.slice A4 (L.length + 1) c4) W5 := ⟨hle5, _, hmore'.out, by rw [hln, qFL]; exact hown4⟩;have ⟨hown4', hg4', hwh4', hle5', hln', hI2'⟩ := hyd6 hown4 hg4 hwh4 hle5 hln hI2;clear hI2 hln hle5 hwh4 hg4 hown4;go_wp2;go_roundw
        case rel => exact ⟨idx + 1, by omega, by go_num, hI2'⟩
        case measure => simp [intOf]; omega
       ·have hbad : qBB (qAR pg) = .error Z := by
         cases hv : qBB (qAR pg) with
         | error z => rw [hv] at hsp; injection hsp with h1 h2; injection h2 with h2 h3; rw [h3]
         | ok q => rw [hv] at hsp; injection hsp with h1 h2; injection h2 with h2 h3; exact absurd h3.symm hZ
        have hspA : qBX l m idx = .error Z := by unfold qBX; rw [hPL'.out]; exact hbad
        have hres : qA9 l (m : Int) = .error Z := (qCf hE'.out hm0 hm1).trans (qDg hL'.out hspA hlt);have hleE := hleA'.out.trans hle219;have ⟨hle18', hsp', hle19', k19', hle219', hbad', hspA', hres'⟩ := hyd8 hle18 hsp hle19 k19 hle219 hbad hspA hres;have hleE' := hyd1 hleE;clear hleE hres hspA hbad hle219 k19 hle19 hsp hle18;go_wp2;exact bodyPost_ret (v := .tuple #[.slice none 0 0, .int .i64 Z]) (by simp [results, Tryz.results11, go_sem]) rfl ⟨hleE'.out, _, _, rfl, by rw [hres'.out]; exact ⟨rfl, rfl⟩⟩
      ·obtain ⟨z, hPL, hz⟩ : ∃ z, qAl (uA m idx) (0, 0) l = .error z ∧ c16 = z := by
        cases hPL : qAl (uA m idx) (0, 0) l with
        | error z => rw [hPL] at hr16; exact ⟨z, rfl, hr16.2⟩
        | ok g => rw [hPL] at hr16; exact absurd hr16.2 hc
       subst hz;have hspA : qBX l m idx = .error c16 := by unfold qBX; rw [hPL]
       have hres : qA9 l (m : Int) = .error c16 := (qCf hE'.out hm0 hm1).trans (qDg hL'.out hspA hlt);have hleE := hleA'.out.trans hle217;have ⟨hle16', hr16', hleW17', k17', hPL', hle217', hspA', hres'⟩ := hyd8 hle16 hr16 hleW17 k17 hPL hle217 hspA hres;have hleE' := hyd1 hleE;clear hleE hres hspA hle217 hPL k17 hleW17 hr16 hle16;go_wp2;exact bodyPost_ret (v := .tuple #[.slice none 0 0, .int .i64 c16]) (by simp [results, Tryz.results11, go_sem]) rfl ⟨hleE'.out, _, _, rfl, by rw [hres'.out]; exact ⟨rfl, rfl⟩⟩
    ·obtain rfl : idx = 4 * m := by omega
     have hres : qA9 l (m : Int) = .ok L := (qCf hE'.out hm0 hm1).trans hL;have hleE := hleA'.out.trans hle2;have hsv := SpotsV.of_row hrow (by have := qCd hL; omega);have ⟨hI', hle2', hL', hrow', hres', hleE', hsv'⟩ := hyd7 hI hle2 hL hrow hres hleE hsv;clear hsv hleE hres hrow hL hle2 hI;go_wp2;exact bodyPost_ret (v := .tuple #[.slice AL L.length cL, .int .i64 0]) (by simp [results, Tryz.results11, go_sem]) rfl ⟨hleE'.out, _, _, rfl, by rw [hres'.out]; exact ⟨hsv'.out, rfl, qIq hrow'.out⟩⟩
  ·have hres : qA9 l n = .error 2 := by
    unfold qA9;rw [if_neg (by simpa using hE'.out), if_neg (by simpa [qAJ] using hn)]
   rw [show qAJ n 1 16 = false by simpa using hn];have ⟨hn', hres'⟩ := hyd2 hn hres;clear hres hn;go_wp2;exact bodyPost_ret (v := .tuple #[.slice none 0 0, .int .i64 2]) (by simp [results, Tryz.results11, go_sem]) rfl ⟨hle1'.out, _, _, rfl, by rw [hres'.out]; exact ⟨rfl, rfl⟩⟩
 ·have hres : qA9 l n = .error E := by unfold qA9; rw [hE'.out, if_pos hE0]
  have ⟨hle1', hres'⟩ := hyd2 hle1 hres;clear hres hle1;go_wp2;exact bodyPost_ret (v := .tuple #[.slice none 0 0, .int .i64 E]) (by simp [results, Tryz.results11, go_sem]) rfl ⟨hle1'.out, _, _, rfl, by rw [hres'.out]; exact ⟨rfl, rfl⟩⟩
end Go.Proofs.YtabfaobakmjiaaaGreat
