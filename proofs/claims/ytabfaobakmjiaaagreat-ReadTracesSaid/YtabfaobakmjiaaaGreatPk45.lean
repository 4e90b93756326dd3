/- barleycornref02.Points: the spots of a path. -/
import Derived.Test.YtabfaobakmjiaaaGreatPk41
import Derived.Test.YtabfaobakmjiaaaGreatPk44
namespace Go.Proofs.YtabfaobakmjiaaaGreat
set_option maxRecDepth 100000
set_option maxHeartbeats 2000000
open Go.RowKit Go.Shelf
set_option linter.unusedVariables false
set_option linter.unusedSimpArgs false
def I64 (u : Value) : Prop := ∃ z, u = .int .i64 z
theorem NumL.row {L : Nat → Prop} {W W' : World} {r v : Value} {n base e size m : Nat} {xs : List Value} (h : NumL L .u32 W v n) (ho : W.ownsRow base e size r m xs) (hall : RowAll I64 W r) (hg : W.grownBy W' r.ownBlock) : NumL L .u32 W' v n := by
 obtain ⟨A, c, hv, h1, h2, hN, h3⟩ := h;refine ⟨A, c, hv, h1, h2, hN, fun h0 => ?_⟩;obtain ⟨b, off, ha, hb, hlt, hc⟩ := h3 h0
 have hne : some b ≠ r.ownBlock := fun e => by
  rcases ho.2 with ⟨rfl, -⟩ | ⟨g, cap, cur, rfl, hbg, hgb, -⟩
  ·cases e
  ·have hbg2 : b = g := by simpa [Value.ownBlock] using e
   subst hbg2;have h4 := hc 0 h0;simp only [World.cell?, hgb] at h4;have h5 : ((dg n)[0] : Nat) = ((dg n)[0] : Nat) := rfl
   have hm : gv .u32 (dg n)[0] ∈ cur.toList := by
    have h6 : cur[off + 0]? = some (gv .u32 (dg n)[0]) := by simpa using h4
    have h7 : cur.toList[off + 0]? = some (gv .u32 (dg n)[0]) := by simpa using h6
    exact List.mem_of_getElem? h7
   obtain ⟨z, hz⟩ := hall b cur _ rfl hgb _ hm
   cases hz
 exact ⟨b, off, ha, hb, Nat.lt_of_lt_of_le hlt hg.size, fun j hj => (World.cell?_of_block (hg.block b hlt hne)).trans (hc j hj)⟩
theorem Unf.row {W W' : World} {r v : Value} (h : Unf W v) (hg : W.grownBy W' r.ownBlock) (hc : ∀ g, r.ownBlock = some g → ∃ cur t, W'.heap[g]? = some (.cells cur t)) : Unf W' v := fun b off m c e => by
 obtain ⟨cs, t, h1⟩ := h b off m c e
 by_cases hb : some b = r.ownBlock
 ·exact hc b hb.symm
 ·exact ⟨cs, t, (hg.block b (gsl h1) hb).trans h1⟩
theorem TurnF.row {W W' : World} {r v : Value} {g : G2} {base e size m : Nat} {xs : List Value} (h : TurnF W v g) (ho : W.ownsRow base e size r m xs) (hall : RowAll I64 W r) (hg : W.grownBy W' r.ownBlock) (hc : ∀ g, r.ownBlock = some g → ∃ cur t, W'.heap[g]? = some (.cells cur t)) : TurnF W' v g := by
 obtain ⟨s1, A1, n1, c1, t1, B1, m1, d1, s2, A2, n2, c2, t2, B2, m2, d2, rfl, ⟨a1, a2, a3, a4, a5, a6, a7⟩, ⟨b1, b2, b3, b4, b5, b6, b7⟩⟩ := h;exact .mk ⟨a1, a2, a3, a4, a5, ⟨a6.1.row ho hall hg, a6.2.row hg hc⟩, ⟨a7.1.row ho hall hg, a7.2.row hg hc⟩⟩ ⟨b1, b2, b3, b4, b5, ⟨b6.1.row ho hall hg, b6.2.row hg hc⟩, ⟨b7.1.row ho hall hg, b7.2.row hg hc⟩⟩
theorem qKv {W W' : World} {base e size n : Nat} {v : Value} {xs : List Value} (h : W.ownsRow base e size v n xs) (hk : ∀ k, v.ownBlock = some k → W'.heap[k]? = W.heap[k]?) : W'.ownsRow base e size v n xs := by
 refine ⟨h.1, ?_⟩
 rcases h.2 with h' | ⟨g', cap, cur, hv, hb, hh, r⟩
 ·exact .inl h'
 ·exact .inr ⟨g', cap, cur, hv, hb, (hk g' (by rw [hv]; rfl)).trans hh, r⟩
theorem qMV : gdiv (ndG 1 1) (qAP (ndG 1 1)) = gi := by
 have := qHD (s := 1) (n := 1) (by decide);rw [show ((1 : Nat) : Int) = 1 from rfl] at this;rw [this];unfold gi
 decide +kernel
theorem qMW (q : Nat) : mulG (qAR (gpow gi q)) (qAR gi) = .ok (gpow gi (q + 1)) := by
 unfold mulG;rw [qCt (qBT (qDh q 40 (by decide))) (qBT (qIr 40 (by decide)))];show outG (gpow gi (q + 1)) = _;rw [qB8 (qDh (q + 1) 40 (by decide))]
structure PtQ (W3 : World) (z6 : Nat) (t ts : TypeId) (iV : Array Value) (B8 : Nat) (l : List ArmA) (m q idx : Nat) (v : Value) (W : World) : Prop where
 le : Le W3 W
 z : z6 ≤ W.heap.size
 b8 : W.heap[B8]? = some (.cells iV t)
 i : TurnF W (.agg iV) gi
 b7 : ∃ qs1 qA1 qn1 qc1 qt1 qB1 qm1 qd1 qs2 qA2 qn2 qc2 qt2 qB2 qm2 qd2, W.heap[W3.heap.size]? = some (.cells #[.bool qs1, .slice qA1 qn1 qc1, .bool qt1, .slice qB1 qm1 qd1, .bool qs2, .slice qA2 qn2 qc2, .bool qt2, .slice qB2 qm2 qd2] t) ∧ TurnF W (.agg #[.bool qs1, .slice qA1 qn1 qc1, .bool qt1, .slice qB1 qm1 qd1, .bool qs2, .slice qA2 qn2 qc2, .bool qt2, .slice qB2 qm2 qd2]) (gpow gi q)
 row : ∃ L, qBA l m idx = .ok L ∧ W.ownsRow z6 ts 2 v L.length (qBP L) ∧ RowAll I64 W v
theorem PtQ.later {W3 : World} {z6 : Nat} {t ts : TypeId} {iV : Array Value} {B8 : Nat} {l : List ArmA} {m q idx : Nat} {v : Value} {W W' : World} (h : PtQ W3 z6 t ts iV B8 l m q idx v W) (hb : Le W W') : PtQ W3 z6 t ts iV B8 l m q idx v W' := by
 obtain ⟨h1, h2, h3, h4, ⟨qs1, qA1, qn1, qc1, qt1, qB1, qm1, qd1, qs2, qA2, qn2, qc2, qt2, qB2, qm2, qd2, h5, h6⟩, L, h7, h8, h9⟩ := h;exact ⟨h1.trans hb, Nat.le_trans h2 hb.size, bxl hb h3, h4.le hb, ⟨qs1, qA1, qn1, qc1, qt1, qB1, qm1, qd1, qs2, qA2, qn2, qc2, qt2, qB2, qm2, qd2, bxl hb h5, h6.le hb⟩, L, h7, qAb h8 hb, h9.same fun g hg => hb.block g (h8.lt g hg).2⟩
theorem PtQ.push {W3 : World} {z6 : Nat} {t ts : TypeId} {iV : Array Value} {B8 : Nat} {l : List ArmA} {m q idx : Nat} {v v' : Value} {W W' : World} {x : Int × Int} {L : List (Int × Int)} (h : PtQ W3 z6 t ts iV B8 l m q idx v W) (hB : W3.heap.size < z6) (hB8 : B8 < z6)
  (hr : W.ownsRow z6 ts 2 v L.length (qBP L)) (hall : RowAll I64 W v) (hL : qBA l m (idx + 1) = .ok (L ++ [x])) (hg : W.grownBy W' v.ownBlock) (ho : W'.ownsRow z6 ts 2 v' (L.length + 1) (qBP L ++ [.int .i64 x.1, .int .i64 x.2])) (ha : RowAll I64 W' v') (hc : ∀ g, v.ownBlock = some g → ∃ cur t, W'.heap[g]? = some (.cells cur t)) :
  PtQ W3 z6 t ts iV B8 l m q (idx + 1) v' W' := by
 obtain ⟨h1, h2, h3, h4, ⟨qs1, qA1, qn1, qc1, qt1, qB1, qm1, qd1, qs2, qA2, qn2, qc2, qt2, qB2, qm2, qd2, h5, h6⟩, -⟩ := h;have hlt := hr.lt;have ne : ∀ b, b < z6 → some b ≠ v.ownBlock := fun b hb e => by have := (hlt b e.symm).1; omega
 refine ⟨Below.grown h1 hg (by have := h1.size; omega) (fun k e => by have := (hlt k e).1; omega), Nat.le_trans h2 hg.size, (hg.block _ (gsl h3) (ne _ hB8)).trans h3, h4.row hr hall hg hc, ⟨qs1, qA1, qn1, qc1, qt1, qB1, qm1, qd1, qs2, qA2, qn2, qc2, qt2, qB2, qm2, qd2, (hg.block _ (gsl h5) (ne _ hB)).trans h5, h6.row hr hall hg hc⟩, _, hL, ?_, ha⟩;rw [show (L ++ [x]).length = L.length + 1 by simp, qFL];exact ho
theorem PtQ.turn {W3 : World} {z6 : Nat} {t ts : TypeId} {iV : Array Value} {B8 : Nat} {l : List ArmA} {m q idx : Nat} {v : Value} {W : World} {fs1 ft1 fs2 ft2 : Bool} {fA1 fB1 fA2 fB2 : Option Addr} {fn1 fc1 fm1 fd1 fn2 fc2 fm2 fd2 : Nat} (h : PtQ W3 z6 t ts iV B8 l m q idx v W) (hB : W3.heap.size < z6) (h8 : W3.heap.size < B8)
  (hf : TurnF W (.agg #[.bool fs1, .slice fA1 fn1 fc1, .bool ft1, .slice fB1 fm1 fd1, .bool fs2, .slice fA2 fn2 fc2, .bool ft2, .slice fB2 fm2 fd2]) (gpow gi (q + 1))) : PtQ W3 z6 t ts iV B8 l m (q + 1) idx v (set8 W W3.heap.size (.bool fs1) (.slice fA1 fn1 fc1) (.bool ft1) (.slice fB1 fm1 fd1) (.bool fs2) (.slice fA2 fn2 fc2) (.bool ft2) (.slice fB2 fm2 fd2)) := by
 obtain ⟨h1, h2, h3, h4, ⟨qs1, qA1, qn1, qc1, qt1, qB1, qm1, qd1, qs2, qA2, qn2, qc2, qt2, qB2, qm2, qd2, h5, h6⟩, L, h7, h8', h9⟩ := h;have ht := qAM W W3.heap.size (.bool fs1) (.slice fA1 fn1 fc1) (.bool ft1) (.slice fB1 fm1 fd1) (.bool fs2) (.slice fA2 fn2 fc2) (.bool ft2) (.slice fB2 fm2 fd2);have hno := qAa h5;have hlt := h8'.lt;refine ⟨qAV h1 (Nat.le_refl _) _ _ _ _ _ _ _ _, by have := ht.1; omega, (ht.2.1 _ (by omega)).trans h3, h4.touch hno ht, ⟨_, _, _, _, _, _, _, _, _, _, _, _, _, _, _, _, qAL h5 _ _ _ _ _ _ _ _, hf.touch hno ht⟩, L, h7, qKv h8' (fun k hk => ht.2.1 _ (by have := (hlt k hk).1; omega)), h9.same fun k hk => ht.2.1 _ (by have := (hlt k hk).1; omega)⟩
theorem qJR (l : List ArmA) (n : Int) (v : Value) (w : World) (hv : ArmsL w v l) : Calls Tryz.prog 33 #[v, .int .i64 n] w (qJ4 (qA9 l n) w) := by
 obtain ⟨A, c, rfl, hlc, -⟩ := id hv;have hchk := qHJ l _ w hv;have hlen := qF5 l;obtain ⟨E, hE⟩ : ∃ E, qB3 l = E := ⟨_, rfl⟩;rw [hE] at hchk;have ⟨hv', hchk', hE', hlen'⟩ := hyd4 hv hchk hE hlen;clear hlen hE hchk hv;go_enter Tryz.func33, Tryz.ntmps33;go_wp2_with (fail);go_at_call 62;refine hchk'.out.mono ?_;rintro e W1 ⟨rfl, hle1⟩
 by_cases hE0 : E = 0
 ·subst hE0;have hle1' := hyd1 hle1;clear hle1;go_wp2_with (fail);go_at_call 26;refine (qAQ n 1 16 W1).mono ?_;rintro e w2 ⟨rfl, rfl⟩
  by_cases hn : qAJ n 1 16 = true
  ·have hn1 : 1 ≤ n ∧ n ≤ 16 := by simpa [qAJ] using hn
   obtain ⟨m, rfl⟩ : ∃ m : Nat, n = (m : Int) := ⟨n.toNat, by omega⟩;obtain ⟨hm0, hm1⟩ := hn1;rw [hn];have hn' := hyd1 hn;clear hn;go_wp2_with (fail);go_at_call 63;refine (qDG (fun _ => True) 1 _ (Up.any _) (by decide) (by decide)).mono ?_;rintro e W2 ⟨v2, rfl, hle2, hf2⟩;obtain ⟨as1, aA1, an1, ac1, at1, aB1, am1, ad1, rfl⟩ := id hf2.fform;have ⟨hle2', hf2'⟩ := hyd2 hle2 hf2;clear hf2 hle2;go_wp2_with (fail);go_at_call 63;refine (qDG (fun _ => True) 0 _ (Up.any _) (by decide) (by decide)).mono ?_;rintro e W3 ⟨v3, rfl, hle3, hf3⟩;obtain ⟨as2, aA2, an2, ac2, at2, aB2, am2, ad2, rfl⟩ := id hf3.fform;obtain ⟨W4, hW4, hle4, k7⟩ := al1 W3 (.cells #[.bool as1, .slice aA1 an1 ac1, .bool at1, .slice aB1 am1 ad1, .bool as2, .slice aA2 an2 ac2, .bool at2, .slice aB2 am2 ad2] 79);have hs4 : W4.heap.size = W3.heap.size + 1 := by rw [← hW4]; simp
   have hq4 : TurnF W4 (.agg #[.bool as1, .slice aA1 an1 ac1, .bool at1, .slice aB1 am1 ad1, .bool as2, .slice aA2 an2 ac2, .bool at2, .slice aB2 am2 ad2]) (gpow gi 0) := (TurnF.mk (hf2'.out.le hle3) hf3).le hle4;have har := qF8 1 1 W4 (by decide) (by decide) (by decide) (by decide);have ⟨hle3', hf3', hle4', k7', hs4', hq4', har'⟩ := hyd7 hle3 hf3 hle4 k7 hs4 hq4 har;clear har hq4 hs4 k7 hle4 hf3 hle3;go_wp2_with (fail);clear hW4;go_at_call 64;refine har'.out.mono ?_;rintro e W5 ⟨hle5, v5, c5, rfl, hr5⟩;have hok1 := qEc (s := 1) (n := 1) (by decide) (by decide) (by decide);rw [show ((1 : Nat) : Int) = 1 from rfl] at hok1
   have hi5 : TurnF W5 v5 gi := by
    have h := hr5;rw [hok1] at h;have e2 : gdiv (ndG 1 1) (qAP (ndG 1 1)) = gi := qMV;rw [e2] at h;exact h.1
   obtain ⟨is1, iA1, in1, ic1, it1, iB1, im1, id1, is2, iA2, in2, ic2, it2, iB2, im2, id2, rfl⟩ := hr5.form;obtain ⟨W6, hW6, hleW6, kI⟩ := al1 W5 (.cells #[.bool is1, .slice iA1 in1 ic1, .bool it1, .slice iB1 im1 id1, .bool is2, .slice iA2 in2 ic2, .bool it2, .slice iB2 im2 id2] 79);have hi6 := hi5.le hleW6;have hs5 := hle5.size;have hs6 : W5.heap.size < W6.heap.size := by rw [← hW6]; simp
   have hvL := hv'.out.le (hle1'.out.trans (hle2'.out.trans hle3'.out));have hleA := hle1'.out.trans (hle2'.out.trans hle3'.out);have hsz : W3.heap.size < W5.heap.size := by have := hs4'.out; omega
   have hI0 : PtQ W3 W6.heap.size 79 41 #[.bool is1, .slice iA1 in1 ic1, .bool it1, .slice iB1 im1 id1, .bool is2, .slice iA2 in2 ic2, .bool it2, .slice iB2 im2 id2] W5.heap.size l m 0 0 (.slice none 0 0) W6 :=
    ⟨hle4'.out.trans (hle5.trans hleW6), Nat.le_refl _, kI, hi6, ⟨as1, aA1, an1, ac1, at1, aB1, am1, ad1, as2, aA2, an2, ac2, at2, aB2, am2, ad2, bxl (hle5.trans hleW6) k7'.out, hq4'.out.le (hle5.trans hleW6)⟩, [], rfl, World.ownsRow_nil _ _ _ _, RowAll.nil _ _⟩
   have ⟨hle5', hr5', hok1', hi5', hleW6', kI', hi6', hs5'⟩ := hyd8 hle5 hr5 hok1 hi5 hleW6 kI hi6 hs5;have ⟨hI0', hvL', hleA'⟩ := hyd3 hI0 hvL hleA;clear hleA hvL hI0 hs5 hi6 kI hleW6 hi5 hok1 hr5 hle5;go_wp2_with (fail);clear hW6;generalize hBI : W5.heap.size = BI at kI' hI0' hsz hs6 ⊢;have hBI' := hyd1 hBI;clear hBI;have j1 : (m : Int) ≤ 16 := by omega
   go_loopw [11, 10] (fun qx vl wr => ∃ q : Nat, q ≤ 4 ∧ qx = .int .i64 q ∧ Hid (PtQ W3 W6.heap.size 79 41 #[.bool is1, .slice iA1 in1 ic1, .bool it1, .slice iB1 im1 id1, .bool is2, .slice iA2 in2 ic2, .bool it2, .slice iB2 im2 id2] BI l m q (q * m) vl wr)) (fun qx _ _ => 4 - (intOf qx).toNat)
   case atStart => exact ⟨0, Nat.zero_le _, rfl, by rw [Nat.zero_mul]; exact hI0'⟩
   case round =>
    obtain ⟨q, hq4, rfl, hI⟩ := hrel
    by_cases hlq : q < 4
    ·have i1 : (q : Int) < 4 := by omega
     have i2 : (0 : Int) ≤ (q : Int) := by omega
     have hI' := hyd1 hI;clear hI;go_wp2_with (fail);rename World => wo
     go_loopw [12, 10] (fun sx vl wr => ∃ s : Nat, s ≤ m ∧ sx = .int .i64 s ∧ Hid (PtQ W3 W6.heap.size 79 41 #[.bool is1, .slice iA1 in1 ic1, .bool it1, .slice iB1 im1 id1, .bool is2, .slice iA2 in2 ic2, .bool it2, .slice iB2 im2 id2] BI l m q (q * m + s) vl wr)) (fun sx _ _ => m - (intOf sx).toNat)
     case atStart => exact ⟨0, Nat.zero_le _, rfl, hI'⟩
     case round =>
      obtain ⟨s, hs, rfl, hI⟩ := hrel;have i3 : (0 : Int) ≤ (s : Int) := by omega
      by_cases hlt : s < m
      ·obtain ⟨L, hL, hrow, hall⟩ := hI.out.row;obtain ⟨AL, cL, rfl⟩ := qBE hrow;have i4 : (s : Int) < (m : Int) := by omega
       have har2 := qF8 (s : Int) (m : Int) wr (by omega) (by omega) (by omega) (by omega);have ⟨hI', hL', hrow', hall', har2'⟩ := hyd5 hI hL hrow hall har2;clear har2 hall hrow hL hI;go_wp2_with (fail);go_at_call 64;refine har2'.out.mono ?_;rintro e W12 ⟨hle12, v12, c12, rfl, hr12⟩;have hA12 := hr12.isAV;obtain ⟨ys1, yA1, yn1, yc1, yt1, yB1, ym1, yd1, ys2, yA2, yn2, yc2, yt2, yB2, ym2, yd2, rfl⟩ := hr12.form;obtain ⟨W13, hW13, hleW13, ky⟩ := al1 W12 (.cells #[.bool ys1, .slice yA1 yn1 yc1, .bool yt1, .slice yB1 ym1 yd1, .bool ys2, .slice yA2 yn2 yc2, .bool yt2, .slice yB2 ym2 yd2] 79);have hle13 := hle12.trans hleW13;have hJ := hI'.out.later hle13;obtain ⟨-, -, -, -, ⟨qs1, qA1, qn1, qc1, qt1, qB1, qm1, qd1, qs2, qA2, qn2, qc2, qt2, qB2, qm2, qd2, k7, f7⟩, -⟩ := id hJ;obtain ⟨z0, z1, z2, z3, z4, z5, z6, z7⟩ := qAB k7;obtain ⟨g0, g1, g2, g3, g4, g5, g6, g7⟩ := qAB ky;have hmul := qEA (qBG (qAu (s : Int) (m : Int))) (qR q) _ _ W13 (hA12.le hleW13) (by rw [qKF]; exact f7.isAV);change Calls Tryz.prog 65 _ W13 (qAi (mulG (qBG (qAu (s : Int) (m : Int))) (qR q)) W13) at hmul;have hsz12 := hle12.size;have ⟨hle12', hr12', hA12', hleW13', ky', hle13', hJ', k7'⟩ := hyd8 hle12 hr12 hA12 hleW13 ky hle13 hJ k7;have ⟨f7', hmul'⟩ := hyd2 f7 hmul;clear hmul f7 k7 hJ hle13 ky hleW13 hA12 hr12 hle12;go_wp2_with (fail);clear hW13;go_at_call 65;refine hmul'.out.mono ?_;rintro e W14 ⟨hle14, v14, c14, rfl, hr14⟩;clear z0 z1 z2 z3 z4 z5 z6 z7 g0 g1 g2 g3 g4 g5 g6 g7;have k14 := bxl hle14 ky'.out;obtain ⟨ms1, mA1, mn1, mc1, mt1, mB1, mm1, md1, ms2, mA2, mn2, mc2, mt2, mB2, mm2, md2, rfl⟩ := hr14.form
       obtain ⟨g0, g1, g2, g3, g4, g5, g6, g7⟩ := qAB k14;have ⟨k0, k1, k2, k3, k4, k5, k6, k7⟩ := frz8 k14;obtain ⟨V15, hV15⟩ : ∃ V, ((((((((W14.setCell ⟨W12.heap.size, 0, none⟩ (.bool ms1)).setCell ⟨W12.heap.size, 1, none⟩ (.slice mA1 mn1 mc1)).setCell ⟨W12.heap.size, 2, none⟩ (.bool mt1)).setCell ⟨W12.heap.size, 3, none⟩ (.slice mB1 mm1 md1)).setCell ⟨W12.heap.size, 4, none⟩ (.bool ms2)).setCell ⟨W12.heap.size, 5, none⟩ (.slice mA2 mn2 mc2)).setCell ⟨W12.heap.size, 6, none⟩ (.bool mt2)).setCell ⟨W12.heap.size, 7, none⟩ (.slice mB2 mm2 md2)) = V := ⟨_, rfl⟩;have ht := qAM W14 W12.heap.size (.bool ms1) (.slice mA1 mn1 mc1) (.bool mt1) (.slice mB1 mm1 md1) (.bool ms2) (.slice mA2 mn2 mc2) (.bool mt2) (.slice mB2 mm2 md2);have hr15 : IsResT V15 (.agg #[.bool ms1, .slice mA1 mn1 mc1, .bool mt1, .slice mB1 mm1 md1, .bool ms2, .slice mA2 mn2 mc2, .bool mt2, .slice mB2 mm2 md2]) c14 (mulG (qBG (qAu (s : Int) (m : Int))) (qR q)) := by rw [← hV15]; exact hr14.touch (qAa k14) ht
       have k15 : V15.heap[W12.heap.size]? = some (.cells #[.bool ms1, .slice mA1 mn1 mc1, .bool mt1, .slice mB1 mm1 md1, .bool ms2, .slice mA2 mn2 mc2, .bool mt2, .slice mB2 mm2 md2] 79) := by rw [← hV15]; exact qAL k14 _ _ _ _ _ _ _ _
       have hle15 : Le wr V15 := by
        rw [← hV15];exact qAV (hle13'.out.trans hle14) hsz12 _ _ _ _ _ _ _ _
       have hA15 := hr15.isAV;obtain ⟨ug, hug, hgu, hgr⟩ := qLc (n := m) (k := q) (s := s) (by omega) (by omega) (by omega) hlt;have huA : uA m (q * m + s) = qBG (mulG (qBG (qAu (s : Int) (m : Int))) (qR q)) := hgu.trans hgr.symm;have hl25 : l.length ≤ 1000 := by rcases hlen'.out with ⟨-, h, -⟩ | ⟨h, -⟩; omega; exact absurd hE'.out h
       have hpl := qLw l (uA m (q * m + s)) _ _ V15 (hvL'.out.le (hI'.out.le.trans hle15)) (by rw [huA]; exact hA15) (fun g h => by rw [hgu, qBT (hug.up (by decide))] at h; injection h with h; rw [← h]; exact hug) hl25;obtain ⟨h0, h1, h2, h3, h4, h5, h6, h7⟩ := qAB k15;have ⟨hle14', hr14', k14', ht', hr15', k15', hle15', hA15'⟩ := hyd8 hle14 hr14 k14 ht hr15 k15 hle15 hA15;have ⟨hug', hgu', hgr', huA', hl25', hpl'⟩ := hyd6 hug hgu hgr huA hl25 hpl;clear hpl hl25 huA hgr hgu hug hA15 hle15 k15 hr15 ht k14 hr14 hle14;go_wp2_with (fail);clear hV15;go_at_call 66;refine hpl'.out.mono ?_;rintro e W16 ⟨hle16, v16, c16, rfl, hr16⟩;clear g0 g1 g2 g3 g4 g5 g6 g7 k0 k1 k2 k3 k4 k5 k6 k7 h0 h1 h2 h3 h4 h5 h6 h7;obtain ⟨rs1, rA1, rn1, rc1, rt1, rB1, rm1, rd1, rs2, rA2, rn2, rc2, rt2, rB2, rm2, rd2, rfl⟩ := hr16.form;obtain ⟨W17, hW17, hleW17, k17⟩ := al1 W16 (.cells #[.bool rs1, .slice rA1 rn1 rc1, .bool rt1, .slice rB1 rm1 rd1, .bool rs2, .slice rA2 rn2 rc2, .bool rt2, .slice rB2 rm2 rd2] 79);have hr17 := hle15'.out.trans (hle16.trans hleW17)
       by_cases hc : c16 = 0
       ·subst hc
        obtain ⟨pg, hPL, hf16⟩ : ∃ g, qAl (uA m (q * m + s)) (0, 0) l = .ok g ∧ TurnF W16 _ g := by
         cases hPL : qAl (uA m (q * m + s)) (0, 0) l with
         | error z => rw [hPL] at hr16; exact absurd hr16.2.symm (qDi _ hPL)
         | ok g => rw [hPL] at hr16; exact ⟨g, rfl, hr16.1⟩
        have hnear := qKs (qAR pg) _ W17 (hf16.le hleW17).isAV;obtain ⟨g0, g1, g2, g3, g4, g5, g6, g7⟩ := qAB k17;have ⟨hle16', hr16', hleW17', k17', hPL', hf16', hnear', hr17'⟩ := hyd8 hle16 hr16 hleW17 k17 hPL hf16 hnear hr17;clear hr17 hnear hf16 hPL k17 hleW17 hr16 hle16;go_wp2_with (fail);clear hW17;go_at_call 67;refine hnear'.out.mono ?_;rintro e W18 ⟨hle18, rfl⟩;clear g0 g1 g2 g3 g4 g5 g6 g7;obtain ⟨X, Y, Z, hsp⟩ : ∃ X Y Z, spE (qBB (qAR pg)) = (X, Y, Z) := ⟨_, _, _, rfl⟩;rw [hsp];dsimp only;obtain ⟨W19, hW19, hle19, k19⟩ := al1 W18 (.cells #[.int .i64 X, .int .i64 Y] 41);have hr19 := hr17'.out.trans (hle18.trans hle19)
        by_cases hZ : Z = 0
        ·subst hZ
         have hok : qBB (qAR pg) = .ok (X, Y) := by
          cases hv : qBB (qAR pg) with
          | error z => rw [hv] at hsp; injection hsp with h1 h2; injection h2 with h2 h3; exact absurd h3 (qHK hv).1
          | ok q => rw [hv] at hsp; injection hsp with h1 h2; injection h2 with h2 h3; rw [← h1, ← h2]
         obtain ⟨mi, hmi, hz0, hz1, hzb⟩ := info_parts qKu;have hJ19 := hI'.out.later hr19;have hrow3 := qAb hrow'.out hr19;have hall3 : RowAll I64 W19 (.slice AL L.length cL) := hall'.out.same fun g hg => hr19.block g (hrow'.out.lt g hg).2;have hall4 : RowAll I64 (W19.alloc (.cells #[.int .i64 X, .int .i64 Y] 41)) (.slice AL L.length cL) := hall3.same fun g hg => Below.block (qAA W19 _) g (hrow3.lt g hg).2;have hnew := qLd W19 (X, Y) 41;have hen : ∀ u ∈ [Value.int .i64 X, Value.int .i64 Y], u.oneCell' = true := by intro u hu; simp at hu; rcases hu with rfl | rfl <;> rfl
         have hi64 : ∀ u ∈ [Value.int .i64 X, Value.int .i64 Y], I64 u := by intro u hu; simp at hu; rcases hu with rfl | rfl <;> exact ⟨_, rfl⟩
         have hzi : ∀ j, j < 2 → I64 (Value.agg #[.int .i64 0, .int .i64 0]).cells[j]! := by intro j hj; match j, hj with | 0, _ => exact ⟨0, rfl⟩ | 1, _ => exact ⟨0, rfl⟩
         have hlen2 := qCd hL'.out;have hrl := hrow3.lt;have hspA : qBX l m (q * m + s) = .ok (X, Y) := by unfold qBX; rw [hPL'.out]; exact hok
         have hmore := qF7 hL'.out hspA;have hsz19 := hr19.size;have hz6 := hI'.out.z;have hL64 : L.length < 80 := by have h1 : q * m ≤ 3 * m := Nat.mul_le_mul_right _ (by omega); omega
         obtain ⟨s0, s1⟩ := qAx k19;have ⟨hle18', hsp', hle19', k19', hok', hr19', hJ19', hrow3'⟩ := hyd8 hle18 hsp hle19 k19 hok hr19 hJ19 hrow3;have ⟨hall3', hall4', hnew', hen', hi64', hzi', hrl', hspA'⟩ := hyd8 hall3 hall4 hnew hen hi64 hzi hrl hspA;have ⟨hmore', hz0', hz1', hzb', hlen2'⟩ := hyd5 hmore hz0 hz1 hzb hlen2;clear hlen2 hzb hz1 hz0 hmore hspA hrl hzi hi64 hen hnew hall4 hall3 hrow3 hJ19 hr19 hok k19 hle19 hsp hle18;go_wp2_with (first | (at_builtin; go_must (refine qFK I64 _ rfl _ _ 23 rfl W6.heap.size 41 mi _ 2 16 Tryz.underlying23 hmi hz0'.out hz1'.out hzb'.out rfl (by decide) (.slice AL L.length cL) L.length (qBP L) rfl (hrow3'.out.alloc _) ⟨W19.heap.size, 0, none⟩ 1 1 [.int .i64 X, .int .i64 Y] rfl rfl hnew'.out hen'.out (by unfold maxLen; omega) (by omega) (by simp; omega) (by decide) hi64'.out hzi'.out hall4'.out ?_)));intro v4 W20 hown4 hg4 hwh4 hra4 hcl4;obtain ⟨A4, c4, rfl⟩ := qBE hown4;have hg5 : W19.grownBy W20 (Value.slice AL L.length cL).ownBlock := ⟨hg4.os, hg4.tape, hg4.output, by have := hg4.size; simp at this; omega, fun k hk hne => (hg4.block k (by simp; omega) hne).trans ((qAA W19 _).block k hk)⟩;have hJ20 := hJ19'.out.push (x := (X, Y)) (by have := hs4'.out; omega) (by omega) hrow3'.out hall3'.out hmore'.out hg5 hown4 hra4 (fun g hg => (hcl4 g hg).imp fun cur h => ⟨_, h⟩);have ⟨hown4', hg4', hg5', hwh4', hra4', hcl4', hJ20'⟩ := hyd7 hown4 hg4 hg5 hwh4 hra4 hcl4 hJ20;clear hJ20 hcl4 hra4 hwh4 hg5 hg4 hown4;go_wp2;go_roundw
         case rel => exact ⟨s + 1, by omega, by go_num, hJ20'⟩
         case measure => simp [intOf]; omega
        ·have hbad : qBB (qAR pg) = .error Z := by
          cases hv : qBB (qAR pg) with
          | error z => rw [hv] at hsp; injection hsp with h1 h2; injection h2 with h2 h3; rw [h3]
          | ok q => rw [hv] at hsp; injection hsp with h1 h2; injection h2 with h2 h3; exact absurd h3.symm hZ
         have hspA : qBX l m (q * m + s) = .error Z := by unfold qBX; rw [hPL'.out]; exact hbad
         have hres : qA9 l (m : Int) = .error Z := (qCf hE'.out hm0 hm1).trans (qDg hL'.out hspA (by have h1 : q * m ≤ 3 * m := Nat.mul_le_mul_right _ (by omega); omega));have hleE := hleA'.out.trans (hI'.out.le.trans hr19);have ⟨hle18', hsp', hle19', k19', hr19', hbad', hspA', hres'⟩ := hyd8 hle18 hsp hle19 k19 hr19 hbad hspA hres;have hleE' := hyd1 hleE;clear hleE hres hspA hbad hr19 k19 hle19 hsp hle18;go_wp2;exact bodyPost_ret (v := .tuple #[.slice none 0 0, .int .i64 Z]) (by simp [results, Tryz.results33, go_sem]) rfl ⟨hleE'.out, _, _, rfl, by rw [hres'.out]; exact ⟨rfl, rfl⟩⟩
       ·obtain ⟨z, hPL, hz⟩ : ∃ z, qAl (uA m (q * m + s)) (0, 0) l = .error z ∧ c16 = z := by
         cases hPL : qAl (uA m (q * m + s)) (0, 0) l with
         | error z => rw [hPL] at hr16; exact ⟨z, rfl, hr16.2⟩
         | ok g => rw [hPL] at hr16; exact absurd hr16.2 hc
        subst hz;have hspA : qBX l m (q * m + s) = .error c16 := by unfold qBX; rw [hPL]
        have hres : qA9 l (m : Int) = .error c16 := (qCf hE'.out hm0 hm1).trans (qDg hL'.out hspA (by have h1 : q * m ≤ 3 * m := Nat.mul_le_mul_right _ (by omega); omega));have hleE := hleA'.out.trans (hI'.out.le.trans hr17);have ⟨hle16', hr16', hleW17', k17', hr17', hPL', hspA', hres'⟩ := hyd8 hle16 hr16 hleW17 k17 hr17 hPL hspA hres;have hleE' := hyd1 hleE;clear hleE hres hspA hPL hr17 k17 hleW17 hr16 hle16;go_wp2;exact bodyPost_ret (v := .tuple #[.slice none 0 0, .int .i64 c16]) (by simp [results, Tryz.results33, go_sem]) rfl ⟨hleE'.out, _, _, rfl, by rw [hres'.out]; exact ⟨rfl, rfl⟩⟩
      ·obtain rfl : s = m := by omega
       obtain ⟨-, -, k8, fi, ⟨qs1, qA1, qn1, qc1, qt1, qB1, qm1, qd1, qs2, qA2, qn2, qc2, qt2, qB2, qm2, qd2, k7, f7⟩, -⟩ := id hI.out;obtain ⟨z0, z1, z2, z3, z4, z5, z6, z7⟩ := qAB k7;obtain ⟨g0, g1, g2, g3, g4, g5, g6, g7⟩ := qAB k8;have hmul := qEA (qAR (gpow gi q)) (qAR gi) _ _ wr f7.isAV fi.isAV;change Calls Tryz.prog 65 _ wr (qAi (mulG (qAR (gpow gi q)) (qAR gi)) wr) at hmul;rw [qMW] at hmul;have ⟨hI', k8', fi', k7', f7', hmul'⟩ := hyd6 hI k8 fi k7 f7 hmul;clear hmul f7 k7 fi k8 hI;go_wp2_with (fail);go_at_call 65;refine hmul'.out.mono ?_;rintro e W24 ⟨hle24, v24, c24, rfl, hr24⟩;obtain ⟨hf24, rfl⟩ := hr24;obtain ⟨ms1, mA1, mn1, mc1, mt1, mB1, mm1, md1, ms2, mA2, mn2, mc2, mt2, mB2, mm2, md2, rfl⟩ := id hf24.aform;clear z0 z1 z2 z3 z4 z5 z6 z7 g0 g1 g2 g3 g4 g5 g6 g7;have hJ := hI'.out.later hle24;have k24 := bxl hle24 k7'.out;obtain ⟨g0, g1, g2, g3, g4, g5, g6, g7⟩ := qAB k24;have ⟨k0, k1, k2, k3, k4, k5, k6, k7⟩ := frz8 k24;have hT := hJ.turn (by have := hs4'.out; omega) hsz hf24;have hmm : (q + 1) * s = q * s + s := by rw [Nat.add_mul, Nat.one_mul]
       have ⟨hle24', hf24', hJ', k24', hT', hmm'⟩ := hyd6 hle24 hf24 hJ k24 hT hmm;clear hmm hT k24 hJ hf24 hle24;go_wp2;go_roundw
       case rel => exact ⟨q + 1, by omega, by go_num, by rw [hmm'.out]; exact hT'⟩
       case measure => simp [intOf]; omega
    ·obtain rfl : q = 4 := by omega
     obtain ⟨hle, -, -, -, -, L, hL, hrow, -⟩ := hI.out;obtain ⟨AL, cL, rfl⟩ := qBE hrow;have hres : qA9 l (m : Int) = .ok L := (qCf hE'.out hm0 hm1).trans hL;have hleE := hleA'.out.trans hle;have hsv := SpotsV.of_row hrow (by have := qCd hL; omega);have ⟨hI', hle', hL', hrow', hres', hleE', hsv'⟩ := hyd7 hI hle hL hrow hres hleE hsv;clear hsv hleE hres hrow hL hle hI;go_wp2;exact bodyPost_ret (v := .tuple #[.slice AL L.length cL, .int .i64 0]) (by simp [results, Tryz.results33, go_sem]) rfl ⟨hleE'.out, _, _, rfl, by rw [hres'.out]; exact ⟨hsv'.out, rfl, qIq hrow'.out⟩⟩
  ·have hres : qA9 l n = .error 2 := by
    unfold qA9;rw [if_neg (by simpa using hE'.out), if_neg (by simpa [qAJ] using hn)]
   rw [show qAJ n 1 16 = false by simpa using hn];have ⟨hn', hres'⟩ := hyd2 hn hres;clear hres hn;go_wp2;exact bodyPost_ret (v := .tuple #[.slice none 0 0, .int .i64 2]) (by simp [results, Tryz.results33, go_sem]) rfl ⟨hle1'.out, _, _, rfl, by rw [hres'.out]; exact ⟨rfl, rfl⟩⟩
 ·have hres : qA9 l n = .error E := by unfold qA9; rw [hE'.out, if_pos hE0]
  have ⟨hle1', hres'⟩ := hyd2 hle1 hres;clear hres hle1;go_wp2;exact bodyPost_ret (v := .tuple #[.slice none 0 0, .int .i64 E]) (by simp [results, Tryz.results33, go_sem]) rfl ⟨hle1'.out, _, _, rfl, by rw [hres'.out]; exact ⟨rfl, rfl⟩⟩
end Go.Proofs.YtabfaobakmjiaaaGreat
