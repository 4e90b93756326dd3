/- reference 1: Ratio, Compare, Add, Mul, Div. reference 1: Sub. reference 1: Rounded. reference 1: Nearest. -/
import Derived.Test.YtabfaobakmjiaaaGreatPk21
namespace Go.Proofs.YtabfaobakmjiaaaGreat
set_option maxRecDepth 100000
set_option maxHeartbeats 4000000
open Go.RowKit Go.Shelf
set_option linter.unusedVariables false
set_option linter.unusedSimpArgs false
theorem qCS {a b : Rat} {n : Nat} (ha : Rsz a n) (hb : Rsz b n) : Rsz (a + b) (n + n + 1) := by
 have ha1 := ha.1; have ha2 := ha.2; have hb1 := hb.1; have hb2 := hb.2;have m1 := qAO (rnum a) b.den;have m2 := qAO (rnum b) a.den;have m3 := qAO a.den b.den;have hdz : a.den * b.den ≠ 0 := Nat.ne_of_gt (Nat.mul_pos (qAc a) (qAc b))
 by_cases h : rneg a = rneg b
 ·rw [← qFd h];obtain ⟨q1, q2⟩ := qEP (rneg a) (rnum a * b.den + rnum b * a.den) (a.den * b.den) hdz;have m4 := qCL (rnum a * b.den) (rnum b * a.den);exact ⟨by omega, by omega⟩
 ·rw [← qII h]
  split
  ·obtain ⟨q1, q2⟩ := qEP (rneg b) (rnum b * a.den - rnum a * b.den) (a.den * b.den) hdz;have m4 : (dg (rnum b * a.den - rnum a * b.den)).length ≤ (dg (rnum b * a.den)).length := qAK (Nat.sub_le _ _);exact ⟨by omega, by omega⟩
  ·obtain ⟨q1, q2⟩ := qEP (rneg a) (rnum a * b.den - rnum b * a.den) (a.den * b.den) hdz;have m4 : (dg (rnum a * b.den - rnum b * a.den)).length ≤ (dg (rnum a * b.den)).length := qAK (Nat.sub_le _ _);exact ⟨by omega, by omega⟩
theorem qEV {a : Rat} {n : Nat} (ha : Rsz a n) : Rsz (-a) n := by obtain ⟨q1, q2, q3⟩ := qFQ a; unfold Rsz; rw [q2, q3]; exact ha
theorem qLq {a b : Rat} {n : Nat} (ha : Rsz a n) (hb : Rsz b n) : Rsz (a - b) (n + n + 1) := by rw [Rat.sub_eq_add_neg]; exact qCS ha (qEV hb)
theorem qDR {a b : Rat} {n : Nat} (ha : Rsz a n) (hb : Rsz b n) : Rsz (a * b) (n + n) := by
 have ha1 := ha.1; have ha2 := ha.2; have hb1 := hb.1; have hb2 := hb.2;rw [← qGo];obtain ⟨q1, q2⟩ := qEP (rneg a != rneg b) (rnum a * rnum b) (a.den * b.den) (Nat.ne_of_gt (Nat.mul_pos (qAc a) (qAc b)));have m1 := qAO (rnum a) (rnum b);have m2 := qAO a.den b.den;exact ⟨by omega, by omega⟩
theorem qJ1 {a b : Rat} {n : Nat} (hb0 : b ≠ 0) (ha : Rsz a n) (hb : Rsz b n) : Rsz (a / b) (n + n) := by
 have ha1 := ha.1; have ha2 := ha.2; have hb1 := hb.1; have hb2 := hb.2;rw [← qFP hb0];obtain ⟨q1, q2⟩ := qEP (rneg a != rneg b) (rnum a * b.den) (a.den * rnum b) (Nat.ne_of_gt (Nat.mul_pos (qAc a) (Nat.pos_of_ne_zero fun h => hb0 (rnum_zero.1 h))));have m1 := qAO (rnum a) b.den;have m2 := qAO a.den (rnum b);exact ⟨by omega, by omega⟩
theorem qH6 {r : Rat} : rsgn r = 0 ↔ r = 0 := by unfold rsgn; rw [Int.sign_eq_zero_iff_zero, Rat.num_eq_zero]
noncomputable def halfR : Rat := ((1 : Int) : Rat) / ((2 : Int) : Rat)
theorem qLR : mkR false 1 2 = halfR := by
 have h := qI0 1 2 (by decide);unfold halfR;rw [← h]
 rfl
theorem qF2 : rneg halfR = false ∧ rnum halfR = 1 ∧ halfR.den = 2 := by
 rw [← qLR];refine ⟨?_, ?_, ?_⟩
 ·rw [qFO _ _ _ (by decide)]; rfl
 ·rw [qDj _ _ _ (by decide)]; decide
 ·rw [qEO _ _ _ (by decide)]; decide
theorem halfR_sz : Rsz halfR 3 := by
 obtain ⟨-, h2, h3⟩ := qF2;exact ⟨by rw [h2]; exact qBp (by omega), by rw [h3]; exact qBp (by omega)⟩
noncomputable def qBM (r : Rat) : Nat := rnum (r + halfR) / (r + halfR).den + (if rneg (r + halfR) = true ∧ rnum (r + halfR) % (r + halfR).den ≠ 0 then 1 else 0)
noncomputable def qEH (r : Rat) : Int := if qBM r ≤ 4611686018427387904 then sg (rneg (r + halfR)) (qBM r) else 0
noncomputable def qBd (r : Rat) : Bool := decide (qBM r ≤ 4611686018427387904)
noncomputable def qAT (x : FracA) : Int × Int :=
 match x.rat? with
 | some r => if qBd r then (qEH r, 0) else (0, 12)
 | none => (0, 10)
theorem qFl {q : Nat} (h : q ≤ 4611686018427387904) : ∃ g0 g1 g2 : Nat, (dg q).getD 0 0 = g0 ∧ (dg q).getD 1 0 = g1 ∧ (dg q).getD 2 0 = g2 ∧ g0 < 1000000000 ∧ g1 < 1000000000 ∧ g2 ≤ 4 ∧ g0 + 1000000000 * g1 + 1000000000000000000 * g2 = q := by
 have hB := qAS;have hl : (dg q).length ≤ 3 := qBp (by omega);have hv := qA4 q;have hlow := qAW q;refine ⟨_, _, _, rfl, rfl, rfl, by rw [← hB]; exact qAt hlow _, by rw [← hB]; exact qAt hlow _, ?_, ?_⟩
 ·match e : dg q, hl with
  | [], _ => simp
  | [a], _ => simp
  | [a, b], _ => simp
  | [a, b, c], _ => rw [e] at hv; simp only [nv, hB] at hv; simp; omega
 ·match e : dg q, hl with
  | [], _ => rw [e] at hv; simp only [nv] at hv; simp; omega
  | [a], _ => rw [e] at hv; simp only [nv, hB] at hv; simp; omega
  | [a, b], _ => rw [e] at hv; simp only [nv, hB] at hv; simp; omega
  | [a, b, c], _ => rw [e] at hv; simp only [nv, hB] at hv; simp; omega
def MPred.box (B : Nat) (o : Obj) : MPred := ⟨fun v w => ∃ k, v = .pointer (some ⟨k, 0, none⟩) ∧ B ≤ k ∧ w.heap[k]? = some o, fun _ _ _ hb ⟨k, e, h1, h2⟩ => ⟨k, e, h1, (hb.block k (gsl h2)).trans h2⟩⟩
theorem qI5 (L : Nat → Prop) (r : Rat) (v : Value) (w : World) (hL : Up w L) (hr : RatL L .i64 w v r) (hsz0 : Rsz r 1000) :
  Calls Tryz.prog 174 #[v] w fun e w' => e = .returned (.tuple #[.int .i64 (qEH r), .bool (qBd r)]) ∧ Le w w' := by
 have hr0 := hr;obtain ⟨An, cn, Ad, cd, rfl, han, had⟩ := hr.form;obtain ⟨sr, hsr⟩ : ∃ sr, rneg r = sr := ⟨_, rfl⟩;rw [hsr] at hr0 ⊢;obtain ⟨b, hb⟩ : ∃ b, r + halfR = b := ⟨_, rfl⟩;have hbs : Rsz b 2001 := by rw [← hb]; exact qCS hsz0 (halfR_sz.up (by decide))
 obtain ⟨sb, hsb⟩ : ∃ sb, rneg b = sb := ⟨_, rfl⟩;obtain ⟨nvv, hnv⟩ : ∃ nvv, qEH r = nvv := ⟨_, rfl⟩;obtain ⟨nf, hnf⟩ : ∃ nf, qBd r = nf := ⟨_, rfl⟩;rw [hnv, hnf];obtain ⟨W0, hW0, hle, k0⟩ := al1 w (.cells #[.bool sr, .slice An (dg (rnum r)).length cn, .slice Ad (dg r.den).length cd] 200);obtain ⟨ca0, ca1, ca2, -⟩ := qAD k0;have hl0 := (gsl k0);have hU0 := hL.le hle;have hr1 := hr0.le hle;have ⟨hL', hr', han', had', hsr', hr0', hsz0', hb'⟩ := hyd8 hL hr han had hsr hr0 hsz0 hb;have ⟨hbs', hsb', hnv', hnf', hle', k0', hU0', hr1'⟩ := hyd8 hbs hsb hnv hnf hle k0 hU0 hr1;clear hr1 hU0 k0 hle hnf hnv hsb hbs hb hsz0 hr0 hsr had han hr hL;go_enter Tryz.func174, Tryz.ntmps174;go_wp2_with (fail);clear hW0;refine qED (R := leRel) 4 [some 8, some 9, some 10, some 4, none] [[], [], [0, 1], [], [2, 3]]
  [.eq (.agg #[.bool sr, .slice An (dg (rnum r)).length cn, .slice Ad (dg r.den).length cd]), MPred.rat L .i64 halfR, MPred.rat L .i64 b, MPred.box W0.heap.size (.cells #[.bool false, .slice none 0 0, .slice none 0 0] 200)] (fun _ _ => False) (by kernel_rfl) (by kernel_rfl) (by kernel_rfl) (by kernel_rfl) (by kernel_rfl) ?_ (fun _ _ _ _ h => h.elim) ?_
 ·simp only [List.take_succ_cons, List.take_zero];refine sMc rfl ?_ (sMc rfl ?_ (sMc rfl ?_ (sMc rfl ?_ (qBo))))
  ·intro x W hR hf Q hK _;have cc0 := bcl hR (by omega) ca0;have cc1 := bcl hR (by omega) ca1;have cc2 := bcl hR (by omega) ca2;simp only [fA] at hK ⊢;go_wp2;exact hK _ _ lrR rfl
  ·intro x W hR hf Q hK _;simp only [fA] at hK ⊢;go_wp2_with (fail);go_at_call 208;refine (qKc L 1 2 W (hU0'.out.le hR) (by decide) (by decide) (by decide) (by decide) (by decide)).mono ?_;rintro e w' ⟨v', rfl, y1, y2⟩;obtain ⟨A1, c1, A2, c2, rfl, -, -⟩ := y2.form;go_wp2;exact hK _ _ y1 y2
  ·intro x W hR hf Q hK _;obtain ⟨e0, e1, -⟩ := hf;change _ = _ at e0;replace e1 : RatL L .i64 W (x 1) halfR := e1;simp only [fA, e0] at hK ⊢;go_wp2_with (fail);go_at_call 169;refine (qCw L r halfR _ _ W (hU0'.out.le hR) (hr1'.out.le hR) e1 (hsz0'.out.up (by decide)) (halfR_sz.up (by decide))).mono ?_;rintro e w' ⟨v', rfl, y1, y2⟩;rw [hb'.out] at y2;obtain ⟨A1, c1, A2, c2, rfl, -, -⟩ := y2.form;go_wp2;exact hK _ _ y1 y2
  ·intro x W hR hf Q hK _;simp only [fA] at hK ⊢;have hs9 := hR.size;go_wp2;exact hK _ _ (qAA _ _) ⟨_, rfl, hs9, by unfold World.alloc; exact Array.getElem?_push_size⟩
 ·intro x W hR hf Q' hQ1 _;have e0 := hf 0 (by decide);change _ = _ at e0;have e2 : RatL L .i64 W (x 2) b := hf 2 (by decide);obtain ⟨k, e3, hk1, hk2⟩ := hf 3 (by decide);replace e3 : x 3 = _ := e3;obtain ⟨Bn, dn, Bd, dd, e4, hbn, hbd⟩ := e2.form;rw [hsb'.out] at e4;simp only [List.drop_succ_cons, List.drop_zero];rw [show List.range 4 = [0, 1, 2, 3] from rfl];simp only [fA, e0, e3, e4];generalize x 1 = x1;clear e0 e2 e3 e4 hf;obtain ⟨z0, z1, z2, f0, f1, f2⟩ := qAD hk2
  obtain ⟨V, hV, hleV, kV, hnV, hdV⟩ : ∃ V, ((W.setCell ⟨k, 0, none⟩ (.bool sb)).setCell ⟨k, 1, none⟩ (.slice Bn (dg (rnum b)).length dn)).setCell ⟨k, 2, none⟩ (.slice Bd (dg b.den).length dd) = V ∧ Le w V ∧ V.heap[k]? = some (.cells #[.bool sb, .slice Bn (dg (rnum b)).length dn, .slice Bd (dg b.den).length dd] 200) ∧ NumL L .i64 V (.slice Bn (dg (rnum b)).length dn) (rnum b) ∧ NumL L .i64 V (.slice Bd (dg b.den).length dd) b.den :=
   ⟨_, rfl, qAg (hle'.out.trans hR) (by have := hle'.out.size; omega), qA0 hk2, NumL.box3 hbn hk2, NumL.box3 hbd hk2⟩
  obtain ⟨d0, d1, d2, -⟩ := qAD kV;have hUV := hL'.out.le hleV;have hlV := (gsl kV);have ⟨hR', hbn', hbd', hk2', hleV', kV', hnV', hdV'⟩ := hyd8 hR hbn hbd hk2 hleV kV hnV hdV;have hUV' := hyd1 hUV;clear hUV hdV hnV kV hleV hk2 hbd hbn hR;go_wp2;clear z0 z1 z2 f0 f1 f2;refine hQ1 _ _ ?_;clear hV;have ms1 := hbs'.out.1;have ms2 := hbs'.out.2;have hd0 := Nat.ne_of_gt (qAc b);go_wp2_with (fail);go_at_call 209;refine (qDf L (rnum b) b.den _ _ V hUV'.out hnV'.out hdV'.out (by omega) (by omega) hd0).mono ?_;rintro e V1 ⟨v1, v2, rfl, hle1, hq, hrm⟩;obtain ⟨Aq, cq, rfl⟩ := hq.slice;obtain ⟨Ar, cr, rfl⟩ := hrm.slice;have kV1 := (hle1.block k (by omega)).trans kV'.out;clear d0 d1 d2;obtain ⟨d0, d1, d2, -⟩ := qAD kV1;have hlq : (dg (rnum b / b.den)).length ≤ 2001 := Nat.le_trans (qAK (Nat.div_le_self _ _)) ms1;have hqN : qBM r = rnum b / b.den + (if sb = true ∧ rnum b % b.den ≠ 0 then 1 else 0) := by unfold qBM; rw [hb'.out, hsb'.out]
  have hvV : nvv = if qBM r ≤ 4611686018427387904 then sg sb (qBM r) else 0 := by rw [← hnv'.out]; unfold qEH; rw [hb'.out, hsb'.out]
  have hfF : nf = decide (qBM r ≤ 4611686018427387904) := by rw [← hnf'.out]; rfl
  obtain ⟨q0, hq0⟩ : ∃ q0, rnum b / b.den = q0 := ⟨_, rfl⟩;obtain ⟨m0, hm0⟩ : ∃ m0, rnum b % b.den = m0 := ⟨_, rfl⟩;rw [hq0] at hq hlq hqN ⊢;rw [hm0] at hrm hqN ⊢;obtain ⟨N, hN⟩ : ∃ N, qBM r = N := ⟨_, rfl⟩;rw [hN] at hqN hvV hfF;have hU1 := hUV'.out.le hle1;have hleT := hleV'.out.trans hle1;clear ms1 ms2 hd0;have ⟨hle1', hq', hrm', kV1', hlq', hq0', hm0', hN'⟩ := hyd8 hle1 hq hrm kV1 hlq hq0 hm0 hN;have ⟨hU1', hleT', hvV', hfF'⟩ := hyd4 hU1 hleT hvV hfF;clear hfF hvV hleT hU1 hN hm0 hq0 hlq kV1 hrm hq hle1;have hkey : (∃ (V2 : World) (A2 : Option Addr) (c2 : Nat), Le V1 V2 ∧ NumL L .i64 V2 (.slice A2 (dg N).length c2) N) → True := fun _ => trivial;clear hkey
  by_cases hc : sb = true ∧ m0 ≠ 0
  ·obtain ⟨rfl, hm⟩ := hc;have hN1 : q0 + 1 = N := by rw [hqN, if_pos ⟨rfl, hm⟩]
   have hl1 : 0 < ((dg m0).length : Int) := by have := dg_length_pos.2 hm; omega
   have hl2 : 0 < (dg m0).length := dg_length_pos.2 hm;clear hqN hm;have hN1' := hyd1 hN1;clear hN1;go_wp2_with (fail);go_at_call 202;refine (qHZ L q0 1 _ _ _ (hU1'.out.le (qAA _ _)) (hq'.out.le (qAA _ _)) (qBI (g := 1) hU1'.out (by omega) qCE _) (by have := hlq'.out; omega) (by rw [qCg]; simp)).mono ?_;rintro e V2 ⟨v3, rfl, hle2, hs⟩;rw [hN1'.out] at hs;obtain ⟨A2, c2, rfl⟩ := hs.slice;have hle12 := (qAA V1 _).trans hle2;have kV2 := (hle12.block k (by have := (gsl kV1'.out); omega)).trans kV1'.out;have hU2 := hU1'.out.le hle12;have hleT2 := hleT'.out.trans hle12;clear d0 d1 d2 hl1 hl2 hU1' hleT' kV1';obtain ⟨d0, d1, d2, -⟩ := qAD kV2;have ⟨hle2', hs', hle12', kV2', hU2', hleT2'⟩ := hyd6 hle2 hs hle12 kV2 hU2 hleT2;clear hleT2 hU2 kV2 hle12 hs hle2;go_wp2_with (fail);go_at_call 166;refine (qBj L 4611686018427387904 _ hU2'.out (by decide) (by decide)).mono ?_;rintro e V3 ⟨v4, rfl, hle3, hfar⟩;rw [show Int.natAbs 4611686018427387904 = 4611686018427387904 from rfl] at hfar;obtain ⟨Af, cf, rfl⟩ := hfar.slice;have hs3 := hs'.out.le hle3;have ⟨hle3', hfar', hs3'⟩ := hyd3 hle3 hfar hs3;clear hs3 hfar hle3;go_wp2_with (fail);go_at_call 203;refine (qCI L L N 4611686018427387904 _ _ V3 hs3'.out hfar'.out).mono ?_;rintro e w' ⟨rfl, nd, rfl⟩;obtain ⟨V4, hV4⟩ : ∃ V4, V3.drewN nd = V4 := ⟨_, rfl⟩;rw [hV4];have hle4 : Le V3 V4 := by rw [← hV4]; exact Le.quiet nd
   have hs4 := hs3'.out.le hle4;have hle34 := hle3'.out.trans hle4;have kV4 := (hle34.block k (by have := (gsl kV2'.out); omega)).trans kV2'.out;have hleT4 := hleT2'.out.trans hle34;clear d0 d1 d2 hV4;obtain ⟨d0, d1, d2, -⟩ := qAD kV4;obtain ⟨o, ho⟩ : ∃ o, ordI N 4611686018427387904 = o := ⟨_, rfl⟩;rw [ho];have ⟨hle4', hs4', hle34', kV4', hleT4'⟩ := hyd5 hle4 hs4 hle34 kV4 hleT4;clear hleT4 kV4 hle34 hs4 hle4
   by_cases hbig : N ≤ 4611686018427387904
   ·have ho1 : ¬ 0 < o := by rw [← ho]; unfold ordI; split <;> (try split) <;> omega
    obtain ⟨g0, g1, g2, j0, j1, j2, b0, b1, b2, hsum⟩ := qFl hbig;have hv9 : nvv = -(N : Int) := by rw [hvV'.out, if_pos hbig]; rfl
    have hf9 : nf = true := by rw [hfF'.out]; simpa using hbig
    subst hf9;have c0 := qAr L (dg N) 0 _ V4 hs4'.out (by omega);have c1 := qAr L (dg N) 1 _ V4 hs4'.out (by omega);have c2 := qAr L (dg N) 2 _ V4 hs4'.out (by omega);rw [j0] at c0;rw [j1] at c1;rw [j2] at c2;have hsi : (g0 : Int) + 1000000000 * (g1 : Int) + 1000000000000000000 * (g2 : Int) = (N : Int) := by omega
    clear hbig;have ⟨ho', j0', j1', j2', hsum', hv9', c0', c1'⟩ := hyd8 ho j0 j1 j2 hsum hv9 c0 c1;have c2' := hyd1 c2;clear c2 c1 c0 hv9 hsum j2 j1 j0 ho;go_wp2_with (fail);go_at_call 210;refine c0'.out.mono ?_;rintro e w' ⟨rfl, rfl⟩;go_wp2_with (fail);go_at_call 210;refine c1'.out.mono ?_;rintro e w' ⟨rfl, rfl⟩;go_wp2_with (fail);go_at_call 210;refine c2'.out.mono ?_;rintro e w' ⟨rfl, rfl⟩;go_wp2;go_ret2;exact ⟨by rw [hv9'.out]; rfl, hleT4'.out⟩
   ·have ho1 : 0 < o := by rw [← ho]; unfold ordI; split <;> (try split) <;> omega
    have hv9 : nvv = 0 := by rw [hvV'.out, if_neg hbig]
    have hf9 : nf = false := by rw [hfF'.out]; simpa using hbig
    subst hf9;subst hv9;clear hbig;have ho' := hyd1 ho;clear ho;go_wp2;go_ret2;exact ⟨rfl, hleT4'.out⟩
  ·have hN1 : q0 = N := by rw [hqN, if_neg hc, Nat.add_zero]
   subst hN1;clear hqN;have hU2' := hU1';have hleT2' := hleT';have hs' := hq';have kV2' := kV1'
   cases sb with
   | false =>
    clear hc;go_wp2_with (fail);go_at_call 166;refine (qBj L 4611686018427387904 _ hU2'.out (by decide) (by decide)).mono ?_;rintro e V3 ⟨v4, rfl, hle3, hfar⟩;rw [show Int.natAbs 4611686018427387904 = 4611686018427387904 from rfl] at hfar;obtain ⟨Af, cf, rfl⟩ := hfar.slice;have hs3 := hs'.out.le hle3;have ⟨hle3', hfar', hs3'⟩ := hyd3 hle3 hfar hs3;clear hs3 hfar hle3;go_wp2_with (fail);go_at_call 203;refine (qCI L L q0 4611686018427387904 _ _ V3 hs3'.out hfar'.out).mono ?_;rintro e w' ⟨rfl, nd, rfl⟩;obtain ⟨V4, hV4⟩ : ∃ V4, V3.drewN nd = V4 := ⟨_, rfl⟩;rw [hV4];have hle4 : Le V3 V4 := by rw [← hV4]; exact Le.quiet nd
    have hs4 := hs3'.out.le hle4;have hle34 := hle3'.out.trans hle4;have kV4 := (hle34.block k (by have := (gsl kV2'.out); omega)).trans kV2'.out;have hleT4 := hleT2'.out.trans hle34;clear d0 d1 d2 hV4;obtain ⟨d0, d1, d2, -⟩ := qAD kV4;obtain ⟨o, ho⟩ : ∃ o, ordI q0 4611686018427387904 = o := ⟨_, rfl⟩;rw [ho];have ⟨hle4', hs4', hle34', kV4', hleT4'⟩ := hyd5 hle4 hs4 hle34 kV4 hleT4;clear hleT4 kV4 hle34 hs4 hle4
    by_cases hbig : q0 ≤ 4611686018427387904
    ·have ho1 : ¬ 0 < o := by rw [← ho]; unfold ordI; split <;> (try split) <;> omega
     obtain ⟨g0, g1, g2, j0, j1, j2, b0, b1, b2, hsum⟩ := qFl hbig;have hv9 : nvv = (q0 : Int) := by rw [hvV'.out, if_pos hbig]; rfl
     have hf9 : nf = true := by rw [hfF'.out]; simpa using hbig
     subst hf9;have c0 := qAr L (dg q0) 0 _ V4 hs4'.out (by omega);have c1 := qAr L (dg q0) 1 _ V4 hs4'.out (by omega);have c2 := qAr L (dg q0) 2 _ V4 hs4'.out (by omega);rw [j0] at c0;rw [j1] at c1;rw [j2] at c2;have hsi : (g0 : Int) + 1000000000 * (g1 : Int) + 1000000000000000000 * (g2 : Int) = (q0 : Int) := by omega
     clear hbig;have ⟨ho', j0', j1', j2', hsum', hv9', c0', c1'⟩ := hyd8 ho j0 j1 j2 hsum hv9 c0 c1;have c2' := hyd1 c2;clear c2 c1 c0 hv9 hsum j2 j1 j0 ho;go_wp2_with (fail);go_at_call 210;refine c0'.out.mono ?_;rintro e w' ⟨rfl, rfl⟩;go_wp2_with (fail);go_at_call 210;refine c1'.out.mono ?_;rintro e w' ⟨rfl, rfl⟩;go_wp2_with (fail);go_at_call 210;refine c2'.out.mono ?_;rintro e w' ⟨rfl, rfl⟩;go_wp2;go_ret2;exact ⟨by rw [hv9'.out]; rfl, hleT4'.out⟩
    ·have ho1 : 0 < o := by rw [← ho]; unfold ordI; split <;> (try split) <;> omega
     have hv9 : nvv = 0 := by rw [hvV'.out, if_neg hbig]
     have hf9 : nf = false := by rw [hfF'.out]; simpa using hbig
     subst hf9;subst hv9;clear hbig;have ho' := hyd1 ho;clear ho;go_wp2;go_ret2;exact ⟨rfl, hleT4'.out⟩
   | true =>
    have hm : m0 = 0 := by
     by_cases h : m0 = 0
     ·exact h
     ·exact absurd ⟨rfl, h⟩ hc
    have hl1 : (dg m0).length = 0 := by rw [hm, qAf]; rfl
    rw [hl1];clear hc hm hl1;go_wp2_with (fail);go_at_call 166;refine (qBj L 4611686018427387904 _ hU2'.out (by decide) (by decide)).mono ?_;rintro e V3 ⟨v4, rfl, hle3, hfar⟩;rw [show Int.natAbs 4611686018427387904 = 4611686018427387904 from rfl] at hfar;obtain ⟨Af, cf, rfl⟩ := hfar.slice;have hs3 := hs'.out.le hle3;have ⟨hle3', hfar', hs3'⟩ := hyd3 hle3 hfar hs3;clear hs3 hfar hle3;go_wp2_with (fail);go_at_call 203;refine (qCI L L q0 4611686018427387904 _ _ V3 hs3'.out hfar'.out).mono ?_;rintro e w' ⟨rfl, nd, rfl⟩;obtain ⟨V4, hV4⟩ : ∃ V4, V3.drewN nd = V4 := ⟨_, rfl⟩;rw [hV4];have hle4 : Le V3 V4 := by rw [← hV4]; exact Le.quiet nd
    have hs4 := hs3'.out.le hle4;have hle34 := hle3'.out.trans hle4;have kV4 := (hle34.block k (by have := (gsl kV2'.out); omega)).trans kV2'.out;have hleT4 := hleT2'.out.trans hle34;clear d0 d1 d2 hV4;obtain ⟨d0, d1, d2, -⟩ := qAD kV4;obtain ⟨o, ho⟩ : ∃ o, ordI q0 4611686018427387904 = o := ⟨_, rfl⟩;rw [ho];have ⟨hle4', hs4', hle34', kV4', hleT4'⟩ := hyd5 hle4 hs4 hle34 kV4 hleT4;clear hleT4 kV4 hle34 hs4 hle4
    by_cases hbig : q0 ≤ 4611686018427387904
    ·have ho1 : ¬ 0 < o := by rw [← ho]; unfold ordI; split <;> (try split) <;> omega
     obtain ⟨g0, g1, g2, j0, j1, j2, b0, b1, b2, hsum⟩ := qFl hbig;have hv9 : nvv = -(q0 : Int) := by rw [hvV'.out, if_pos hbig]; rfl
     have hf9 : nf = true := by rw [hfF'.out]; simpa using hbig
     subst hf9;have c0 := qAr L (dg q0) 0 _ V4 hs4'.out (by omega);have c1 := qAr L (dg q0) 1 _ V4 hs4'.out (by omega);have c2 := qAr L (dg q0) 2 _ V4 hs4'.out (by omega);rw [j0] at c0;rw [j1] at c1;rw [j2] at c2;have hsi : (g0 : Int) + 1000000000 * (g1 : Int) + 1000000000000000000 * (g2 : Int) = (q0 : Int) := by omega
     clear hbig;have ⟨ho', j0', j1', j2', hsum', hv9', c0', c1'⟩ := hyd8 ho j0 j1 j2 hsum hv9 c0 c1;have c2' := hyd1 c2;clear c2 c1 c0 hv9 hsum j2 j1 j0 ho;go_wp2_with (fail);go_at_call 210;refine c0'.out.mono ?_;rintro e w' ⟨rfl, rfl⟩;go_wp2_with (fail);go_at_call 210;refine c1'.out.mono ?_;rintro e w' ⟨rfl, rfl⟩;go_wp2_with (fail);go_at_call 210;refine c2'.out.mono ?_;rintro e w' ⟨rfl, rfl⟩;go_wp2;go_ret2;exact ⟨by rw [hv9'.out]; rfl, hleT4'.out⟩
    ·have ho1 : 0 < o := by rw [← ho]; unfold ordI; split <;> (try split) <;> omega
     have hv9 : nvv = 0 := by rw [hvV'.out, if_neg hbig]
     have hf9 : nf = false := by rw [hfF'.out]; simpa using hbig
     subst hf9;subst hv9;clear hbig;have ho' := hyd1 ho;clear ho;go_wp2;go_ret2;exact ⟨rfl, hleT4'.out⟩
theorem qJu {x : FracA} (h : okAF x = false) : qAT x = (0, 10) := by
 unfold qAT;unfold okAF at h
 cases h1 : x.rat? with
 | none => rfl
 | some a => rw [h1] at h; cases h
theorem qJv {x : FracA} {r : Rat} (h : x.rat? = some r) : qAT x = if qBd r then (qEH r, 0) else (0, 12) := by unfold qAT; rw [h]
theorem qLS {x : FracA} (h : okAF x = true) : ∃ r, x.rat? = some r := by unfold okAF at h; exact Option.isSome_iff_exists.1 h
theorem qFD (L L2 : Nat → Prop) (x : FracA) (v : Value) (w : World) (hL : Up w L) (h : IsFracA L2 w v x) :
  Calls Tryz.prog 124 #[v] w fun e w' => e = .returned (.tuple #[.int .i64 (qAT x).1, .int .i64 (qAT x).2]) ∧ Le w w' := by
 have h0 := h;obtain ⟨A, c, B, d, rfl, p1, p2⟩ := h;obtain ⟨b, hb⟩ : ∃ b, okAF x = b := ⟨_, rfl⟩;obtain ⟨n1, n2, hn⟩ : ∃ n1 n2, qAT x = (n1, n2) := ⟨_, _, rfl⟩;rw [hn];have hle := qAA w (.cells #[.bool x.sn, .slice A x.gn.length c, .bool x.sd, .slice B x.gd.length d] 76);have r1 := qGy L L2 x _ _ (hL.le hle) (h0.le hle);have ⟨hL', h0', p1', p2', hle', r1', hb', hn'⟩ := hyd8 hL h0 p1 p2 hle r1 hb hn;clear hn hb r1 hle p2 p1 h0 hL;go_enter Tryz.func124, Tryz.ntmps124;go_wp2_with (fail);go_at_call 173;refine r1'.out.mono ?_;rintro e W1 hin;obtain ⟨hle1, v1, rfl, ⟨s1, Q1, m1, e1, Q2, m2, e2, rfl⟩, hr1⟩ := hin.res;rw [hb'.out];obtain ⟨W2, hW2, hle2, kx⟩ := al1 W1 (.cells #[.bool s1, .slice Q1 m1 e1, .slice Q2 m2 e2] 200);have hall := (hle'.out.trans hle1).trans hle2;have hU2 := hL'.out.le hall;obtain ⟨x0, x1, x2, -⟩ := qAD kx;have ⟨hin', hle1', hle2', hall', hU2', kx', hr1'⟩ := hyd7 hin hle1 hle2 hall hU2 kx hr1;clear hr1 kx hU2 hall hle2 hle1 hin
 cases b
 ·have hno := qJu hb'.out;rw [hn'.out] at hno;injection hno with k1 k2;subst k1;subst k2;go_wp2;go_ret2;exact ⟨rfl, hall'.out⟩
 ·obtain ⟨r, hr⟩ := qLS hb'.out;have hyes := qJv hr;rw [hn'.out] at hyes;have hrr := (hr1'.out r hr).le hle2'.out;have hsz := FracA.sz hr;obtain ⟨nf, hnf⟩ : ∃ nf, qBd r = nf := ⟨_, rfl⟩;rw [hnf] at hyes;have ⟨hr', hrr', hsz', hnf'⟩ := hyd4 hr hrr hsz hnf;clear hnf hsz hrr hr;go_wp2_with (fail);go_at_call 174;refine (qI5 L r _ W2 hU2'.out hrr'.out (hsz'.out.up (by decide))).mono ?_;rintro e W3 ⟨rfl, hle3⟩;rw [hnf'.out];have hall3 := hall'.out.trans hle3;have ⟨hle3', hall3'⟩ := hyd2 hle3 hall3;clear hall3 hle3
  cases nf
  ·simp only [Bool.false_eq_true, if_false] at hyes;injection hyes with k1 k2;subst k1;subst k2;go_wp2;go_ret2;exact ⟨rfl, hall3'.out⟩
  ·simp only [if_true] at hyes;injection hyes with k1 k2;subst k1;subst k2;go_wp2;go_ret2;exact ⟨rfl, hall3'.out⟩
end Go.Proofs.YtabfaobakmjiaaaGreat
