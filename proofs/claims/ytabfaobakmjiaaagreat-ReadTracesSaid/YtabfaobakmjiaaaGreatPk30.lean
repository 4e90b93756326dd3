/- exact: operated, Add, Sub, Mul, Div, Compare. exact: Nearest's closure. exact: FromInt, Ratio, Nearest. -/
import Derived.Test.YtabfaobakmjiaaaGreatPk23
namespace Go.Proofs.YtabfaobakmjiaaaGreat
set_option maxRecDepth 100000
set_option maxHeartbeats 1000000
open Go.RowKit Go.Shelf
set_option linter.unusedVariables false
set_option linter.unusedSimpArgs false
theorem FBox.mk {w W : World} {B : Nat} {x : FracA} {A A' : Option Addr} {c c' : Nat} {L : Nat → Prop} (hv : IsFracA L w (.agg #[.bool x.sn, .slice A x.gn.length c, .bool x.sd, .slice A' x.gd.length c']) x) (hle : Le w W) (hk : W.heap[B]? = some (.cells #[.bool x.sn, .slice A x.gn.length c, .bool x.sd, .slice A' x.gd.length c'] 76)) : FBox W B (.agg #[.bool x.sn, .slice A x.gn.length c, .bool x.sd, .slice A' x.gd.length c']) x :=
 ⟨A, c, A', c', rfl, hk, (hv.le hle).mono fun _ _ => trivial⟩
attribute [local go_sem] Oper.semAt_some
def qCZ (x : FracA) (w : World) (e : Ending) (w' : World) : Prop := Le w w' ∧ (((qAT x).2 = 0 ∧ e = .returned (.int .i64 (qAT x).1)) ∨ ((qAT x).2 ≠ 0 ∧ e = .panicked (flt (qAT x).2)))
theorem qDS (W : World) (t : TypeId) : RatL (fun _ => True) .u32 ((W.alloc (.cells #[.int .u32 1] t)).alloc (.cells #[.int .u32 2] t)) (.agg #[.bool false, .slice (some ⟨W.heap.size, 0, none⟩) 1 1, .slice (some ⟨W.heap.size + 1, 0, none⟩) 1 1]) halfR := by
 obtain ⟨h1, h2, h3⟩ := qF2;refine ⟨_, _, by rw [h1], ?_, ?_⟩
 ·rw [h2];exact (qBI (L := fun _ => True) (k := .u32) (V := W) (g := 1) (fun _ _ => trivial) (by omega) qCE t).le (qAA _ _)
 ·rw [h3];have h := qBI (L := fun _ => True) (k := .u32) (V := W.alloc (.cells #[.int .u32 1] t)) (g := 2) (fun _ _ => trivial) (by omega) (by rw [qAS]; omega) t;rw [World.size_alloc] at h;exact h
structure NearI (W0 : World) (n₀ R : Nat) (t : TypeId) (Bs : List Nat) (N : Nat) (pre : List (Fin (dg N).length)) (W : World) : Prop where
 kept : Kept n₀ Bs W0 W
 size : W0.heap.size ≤ W.heap.size
 ex : ∃ z : Int, W.heap[R]? = some (.cells #[.int .i64 z] t) ∧ (pre <+: List.finRange (dg N).length → z = (nv ((dg N).drop ((dg N).length - pre.length)) : Int))
theorem NearI.from (W0 : World) (n₀ R : Nat) (t : TypeId) (Bs : List Nat) (N N0 : Nat) (h : W0.heap.size ≤ N0) (hn : n₀ ≤ W0.heap.size) (hR : R < N0) (hBs : ∀ B ∈ Bs, B < W0.heap.size) : OwnFrom N0 (NearI W0 n₀ R t Bs N) := by
 rintro s X Y row ⟨h1, hs, z, h6, h7⟩ hg hrow;refine ⟨h1.trans ⟨(Below.refl _ _).grown hg (by omega) fun k e => by have := (hrow k e).1; omega, fun B hB => hg.block B (by have := hBs B hB; omega) (fun e => by have := (hrow _ e.symm).1; have := hBs B hB; omega)⟩, Nat.le_trans hs hg.size, z, ?_, h7⟩;exact (hg.block R (gsl h6) (fun e => by have := (hrow _ e.symm).1; omega)).trans h6
theorem qKA (l : List Nat) (k : Nat) (h : k ≤ l.length) : nv (l.drop k) ≤ nv l := by
 have e := qBa l k h;have : 0 < B9 ^ k := qDn k;have := Nat.le_mul_of_pos_left (nv (l.drop k)) this;omega
theorem qKj {N m g : Nat} {z : Int} (hN : N ≤ 4611686018427387904) (hm : m < (dg N).length) (hg : (dg N)[m] = g) (hz : z = (nv ((dg N).drop (m + 1)) : Int)) : wrap64 (wrap64 (z * 1000000000) + (g : Int)) = (nv ((dg N).drop m) : Int) := by
 have e := qBy (dg N) m hm;have hle := qKA (dg N) m (by omega);rw [qA4] at hle;rw [hg, qAS] at e;subst hz;have h1 : wrap64 ((nv ((dg N).drop (m + 1)) : Int) * 1000000000) = (nv ((dg N).drop (m + 1)) : Int) * 1000000000 := IntWalk.wrap64_in _ (by omega);rw [h1];have h2 : (nv ((dg N).drop (m + 1)) : Int) * 1000000000 + (g : Int) = (nv ((dg N).drop m) : Int) := by omega
 rw [h2];exact IntWalk.wrap64_in _ (by omega)
theorem NearI.step {W0 : World} {n₀ R : Nat} {t : TypeId} {Bs : List Nat} {N : Nat} {pre : List (Fin (dg N).length)} {x : Fin (dg N).length} {W : World} {z : Int} (hN : N ≤ 4611686018427387904)
  (k1 : Kept n₀ Bs W0 W) (k2 : W0.heap.size ≤ W.heap.size) (h5 : W.heap[R]? = some (.cells #[.int .i64 z] t)) (h6 : pre <+: List.finRange (dg N).length → z = (nv ((dg N).drop ((dg N).length - pre.length)) : Int))
  (m g : Nat) (hm : (dg N).length - 1 - x.1 = m) (hg : (dg N)[m]?.getD 0 = g) (hR : n₀ ≤ R) (hBs : ∀ B ∈ Bs, B ≠ R) (N0 : Nat) (aa : Act) :
  ownPostG N0 (Kept n₀ Bs) (NearI W0 n₀ R t Bs N) (fun _ _ _ => False) (pre ++ [x]) W .normal aa (W.setCell ⟨R, 0, none⟩ (.int .i64 (wrap64 (wrap64 (z * 1000000000) + (g : Int))))) := by
 have hx := x.2;have hml : m < (dg N).length := by omega
 have hgd : (dg N)[m] = g := by rw [← hg]; simp [hml]
 have hk : Kept n₀ Bs W (W.setCell ⟨R, 0, none⟩ (.int .i64 (wrap64 (wrap64 (z * 1000000000) + (g : Int))))) := ⟨(Below.refl _ W).setCell (p := ⟨R, 0, none⟩) hR _, fun B hB => Below.heap_setCell _ _ _ _ (hBs B hB)⟩;refine ⟨(KeepsOthers.setCell _ _ _).from _, hk, k1.trans hk, by simpa [World.setCell] using k2, _, qA8 h5, fun hp => ?_⟩;obtain ⟨p1, p2⟩ := qCO hp;have h9 := h6 p1;rw [show (dg N).length - pre.length = m + 1 by omega] at h9;rw [List.length_append, List.length_singleton, show (dg N).length - (pre.length + 1) = m by omega];exact qKj hN hml hgd h9
theorem qEW : qAk Tryz.prog 145 := fun _ _ => by kernel_rfl
theorem qFr (x : FracA) (Bx : Nat) (va : Value) (w : World) (hx : FBox w Bx va x) (hr : x.rat? = none) :
  Calls Tryz.prog 145 #[.pointer (some ⟨Bx, 0, none⟩)] w (qCZ x w) := by
 obtain ⟨A, c, A', c', rfl, kx, hxa⟩ := hx;obtain ⟨a0, a1, a2, a3⟩ := qA3 kx;have hE : qAT x = (0, 10) := by unfold qAT; rw [hr]
 have ⟨kx', hxa', hr', hE'⟩ := hyd4 kx hxa hr hE;clear hE hr hxa kx;go_enter Tryz.func145, Tryz.ntmps145;go_wp2_with (fail);go_at_call 137;refine (qE9 (fun _ => True) x _ w (Up.any _) hxa'.out hr'.out).mono ?_;rintro e W1 ⟨rfl, hle1⟩;go_wp2_with (fail);exact ⟨rfl, hle1, .inr ⟨by rw [hE'.out]; decide, by rw [hE'.out]⟩⟩
theorem qFs (x : FracA) (r : Rat) (Bx : Nat) (va : Value) (w : World) (hx : FBox w Bx va x) (hr : x.rat? = some r) (N q0 m0 : Nat) (hN : qBM r = N) (hq0 : rnum (r + halfR) / (r + halfR).den = q0) (hm0 : rnum (r + halfR) % (r + halfR).den = m0) (hfit : 4611686018427387904 < N) (hsb : rneg (r + halfR) = true) (hm0p : m0 ≠ 0) :
  Calls Tryz.prog 145 #[.pointer (some ⟨Bx, 0, none⟩)] w (qCZ x w) := by
 obtain ⟨A, c, A', c', rfl, kx, hxa⟩ := hx;obtain ⟨a0, a1, a2, a3⟩ := qA3 kx;have hsz0 := FracA.sz hr;obtain ⟨b, hb⟩ : ∃ b, r + halfR = b := ⟨_, rfl⟩;rw [hb] at hq0 hm0 hsb;have hbs : Rsz b 2001 := by rw [← hb]; exact qCS (n := 1000) (hsz0.up (by decide)) (halfR_sz.up (by decide))
 have hE : qAT x = (0, 12) := by
  unfold qAT qBd;rw [hr];simp only [hN];rw [decide_eq_false (show ¬ N ≤ 4611686018427387904 by omega)]
  rfl
 have hNE : q0 + 1 = N := by
  rw [← hN, ← hq0];unfold qBM;rw [hb, hsb];rw [hm0];rw [if_pos ⟨rfl, hm0p⟩]
 have ⟨kx', hxa', hr', hN', hsz0', hb', hbs', hE'⟩ := hyd8 kx hxa hr hN hsz0 hb hbs hE;have ⟨hNE', hsb', hq0', hm0'⟩ := hyd4 hNE hsb hq0 hm0;clear hm0 hq0 hsb hNE hE hbs hb hsz0 hN hr hxa kx;go_enter Tryz.func145, Tryz.ntmps145;go_wp2_with (fail);go_at_call 137;refine (qBq (fun _ => True) x r _ _ (Up.any _) hxa'.out hr'.out).mono ?_;rintro e W1 ⟨v1, rfl, hle1, hr1⟩;have hr10 := hr1;obtain ⟨A1, c1, A2, c2, rfl, -, -⟩ := hr1.form;obtain ⟨W2, hW2, hsz2, hle2, -, -⟩ := qA6 W1 (.cells #[.int .u32 1] 196) (.cells #[.int .u32 2] 196);have hhalf := qDS W1 196;rw [hW2] at hhalf;have hr2 := hr10.le hle2;have ⟨hle1', hr1', hr10', hle2', hhalf', hr2'⟩ := hyd6 hle1 hr1 hr10 hle2 hhalf hr2;clear hr2 hhalf hle2 hr10 hr1 hle1;go_wp2_with (fail);clear hW2;go_at_call 142;refine (qBc (fun _ => True) r halfR _ _ W2 (Up.any _) hr2'.out hhalf'.out (hsz0'.out.up (by decide)) (halfR_sz.up (by decide))).mono ?_;rintro e W3 ⟨v3, rfl, hle3, hr3⟩;rw [hb'.out] at hr3;obtain ⟨Bn, dn, Bd, dd, rfl, hbn, hbd⟩ := hr3.form;rw [hsb'.out];obtain ⟨W4, hW4, hle4, kb⟩ := al1 W3 (.cells #[.bool true, .slice Bn (dg (rnum b)).length dn, .slice Bd (dg b.den).length dd] 131);obtain ⟨d0, d1, d2, -⟩ := qAD kb;have hbn4 := hbn.le hle4;have hbd4 := hbd.le hle4;have hle04 := ((hle1'.out.trans hle2'.out).trans hle3).trans hle4;have ms1 := hbs'.out.1;have ms2 := hbs'.out.2;have hd0 := Nat.ne_of_gt (qAc b);have hover := qC6 (fun _ => True) (rnum b) b.den _ _ W4 (Up.any _) hbn4 hbd4 (by omega) (by omega) hd0;rw [hq0'.out, hm0'.out] at hover
 have hlq : (dg q0).length ≤ 2001 := by rw [← hq0'.out]; exact Nat.le_trans (qAK (Nat.div_le_self _ _)) ms1
 have ⟨hle3', hr3', hbn', hbd', hle4', kb', hbn4', hbd4'⟩ := hyd8 hle3 hr3 hbn hbd hle4 kb hbn4 hbd4;have ⟨hle04', ms1', ms2', hd0', hover', hlq'⟩ := hyd6 hle04 ms1 ms2 hd0 hover hlq;clear hlq hover hd0 ms2 ms1 hle04 hbd4 hbn4 kb hle4 hbd hbn hr3 hle3;go_wp2_with (fail);clear hW4;go_at_call 146;refine hover'.out.mono ?_;rintro e W5 ⟨vq, vm, rfl, hle5, hq5, hm5⟩;obtain ⟨Aq, cq, rfl⟩ := hq5.slice;obtain ⟨Am, cm, rfl⟩ := hm5.slice;have kb5 := (hle5.block _ (gsl kb'.out)).trans kb'.out;clear d0 d1 d2;obtain ⟨d0, d1, d2, -⟩ := qAD kb5;have hle05 := hle04'.out.trans hle5;have hl1 : 0 < ((dg m0).length : Int) := by have := dg_length_pos.2 hm0p; omega
 have hl2 : 0 < (dg m0).length := dg_length_pos.2 hm0p;have hone := qBI (L := fun _ => True) (k := .u32) (V := W5) (g := 1) (fun _ _ => trivial) (by omega) qCE 196;obtain ⟨W6, hW6, hle6⟩ : ∃ W6, W5.alloc (.cells #[.int .u32 1] 196) = W6 ∧ Le W5 W6 := ⟨_, rfl, qAA _ _⟩;rw [show ((1 : Nat) : Int) = 1 from rfl, hW6] at hone;have hpl := qGs (fun _ => True) q0 1 _ _ W6 (Up.any _) (hq5.le hle6) hone (by have := hlq'.out; omega) (by rw [qCg]; simp);rw [hNE'.out] at hpl;have ⟨hle5', hq5', hm5', kb5', hle05', hone', hle6', hpl'⟩ := hyd8 hle5 hq5 hm5 kb5 hle05 hone hle6 hpl;clear hpl hle6 hone hle05 kb5 hm5 hq5 hle5;go_wp2_with (fail);clear hW6;go_at_call 147;refine hpl'.out.mono ?_;rintro e W8 ⟨v8, rfl, hle7, hq8⟩;obtain ⟨A8, c8, rfl⟩ := hq8.slice;have kb8 := ((hle6'.out.trans hle7).block _ (gsl kb5'.out)).trans kb5'.out;have hle08 := hle05'.out.trans (hle6'.out.trans hle7)
 have hl8 : (dg N).length ≤ 100000000 := by
  have h1 := qCL q0 1;rw [hNE'.out] at h1;have h2 := hlq'.out;have h3 : (dg 1).length = 1 := by rw [qCg]; rfl
  omega
 clear d0 d1 d2 hl1 hl2;have ⟨hle7', hq8', kb8', hle08'⟩ := hyd4 hle7 hq8 kb8 hle08;clear hle08 kb8 hq8 hle7
 -- the number is there: q8, in W8
 obtain ⟨F, hF⟩ : ∃ F : Nat, F = 4611686018427387904 := ⟨_, rfl⟩;have hFi : (F : Int) = 4611686018427387904 := by rw [hF]; rfl
 have hsm := qCG F W8 (by omega);rw [hFi] at hsm;have ⟨hsm', hF', hFi'⟩ := hyd3 hsm hF hFi;clear hFi hF hsm;go_wp2_with (fail);go_at_call 111;refine hsm'.out.mono ?_;rintro e W9 ⟨v9, rfl, hle9, hown9⟩;have hn9 : NumL (fun _ => True) .u32 W9 v9 F := ArrL.of_own hown9 (fun _ _ => trivial);obtain ⟨A9, c9, rfl⟩ := hn9.slice;have hq9 := hq8'.out.le hle9;have hcmp := qBS (fun _ => True) N F _ _ W9 hq9 hn9 (by omega) (Nat.le_trans (qBp (by have := hF'.out; omega)) (by decide));have kb9 := (Below.block hle9 _ (gsl kb8'.out)).trans kb8'.out;have hle09 := hle08'.out.trans hle9;have ⟨hle9', hown9', hn9', hq9', hcmp', kb9', hle09'⟩ := hyd7 hle9 hown9 hn9 hq9 hcmp kb9 hle09;clear hle09 kb9 hcmp hq9 hn9 hown9 hle9;go_wp2_with (fail);go_at_call 148;refine hcmp'.out.mono ?_;rintro e W10 ⟨cc, rfl, hle10, hc1, hc2⟩;have kb10 := (Below.block hle10 _ (gsl kb9'.out)).trans kb9'.out;have hle010 := hle09'.out.trans hle10;have hq10 := hq9'.out.le hle10;obtain ⟨e0, e1, e2, -⟩ := qAD kb10
 have hcd : cc ≤ 0 ↔ N ≤ 4611686018427387904 := by
  have hF := hF'.out;constructor
  ·intro h
   rcases Int.lt_or_eq_of_le h with h | h
   ·have := hc1.1 h; omega
   ·have := hc2.1 h; omega
  ·intro h
   rcases Nat.lt_or_eq_of_le h with h | h
   ·have := hc1.2 (by omega); omega
   ·have := hc2.2 (by omega); omega
 have hcn : decide (cc ≤ 0) = false := decide_eq_false (fun h => absurd (hcd.1 h) (by omega));have ⟨hle10', hc1', hc2', kb10', hle010', hq10', hcd'⟩ := hyd7 hle10 hc1 hc2 kb10 hle010 hq10 hcd;clear hcd hq10 hle010 kb10 hc2 hc1 hle10;go_wp2_with (fail);go_at_call 84;refine (qAz _ _).mono ?_;rintro e W11 ⟨rfl, rfl⟩;go_wp2_with (fail);exact ⟨rfl, hle010'.out, .inr ⟨by rw [hE'.out]; decide, by rw [hE'.out]⟩⟩
theorem qFt (x : FracA) (r : Rat) (Bx : Nat) (va : Value) (w : World) (hx : FBox w Bx va x) (hr : x.rat? = some r) (N q0 m0 : Nat) (hN : qBM r = N) (hq0 : rnum (r + halfR) / (r + halfR).den = q0) (hm0 : rnum (r + halfR) % (r + halfR).den = m0) (hfit : 4611686018427387904 < N) (hsb : rneg (r + halfR) = false) :
  Calls Tryz.prog 145 #[.pointer (some ⟨Bx, 0, none⟩)] w (qCZ x w) := by
 obtain ⟨A, c, A', c', rfl, kx, hxa⟩ := hx;obtain ⟨a0, a1, a2, a3⟩ := qA3 kx;have hsz0 := FracA.sz hr;obtain ⟨b, hb⟩ : ∃ b, r + halfR = b := ⟨_, rfl⟩;rw [hb] at hq0 hm0 hsb;have hbs : Rsz b 2001 := by rw [← hb]; exact qCS (n := 1000) (hsz0.up (by decide)) (halfR_sz.up (by decide))
 have hE : qAT x = (0, 12) := by
  unfold qAT qBd;rw [hr];simp only [hN];rw [decide_eq_false (show ¬ N ≤ 4611686018427387904 by omega)]
  rfl
 have hNE : q0 = N := by
  rw [← hN, ← hq0];unfold qBM;rw [hb, hsb];rw [if_neg (by simp)]; rfl
 obtain rfl : N = q0 := hNE.symm;have ⟨kx', hxa', hr', hN', hsz0', hb', hbs', hE'⟩ := hyd8 kx hxa hr hN hsz0 hb hbs hE;have ⟨hNE', hsb', hq0', hm0'⟩ := hyd4 hNE hsb hq0 hm0;clear hm0 hq0 hsb hNE hE hbs hb hsz0 hN hr hxa kx;go_enter Tryz.func145, Tryz.ntmps145;go_wp2_with (fail);go_at_call 137;refine (qBq (fun _ => True) x r _ _ (Up.any _) hxa'.out hr'.out).mono ?_;rintro e W1 ⟨v1, rfl, hle1, hr1⟩;have hr10 := hr1;obtain ⟨A1, c1, A2, c2, rfl, -, -⟩ := hr1.form;obtain ⟨W2, hW2, hsz2, hle2, -, -⟩ := qA6 W1 (.cells #[.int .u32 1] 196) (.cells #[.int .u32 2] 196);have hhalf := qDS W1 196;rw [hW2] at hhalf;have hr2 := hr10.le hle2;have ⟨hle1', hr1', hr10', hle2', hhalf', hr2'⟩ := hyd6 hle1 hr1 hr10 hle2 hhalf hr2;clear hr2 hhalf hle2 hr10 hr1 hle1;go_wp2_with (fail);clear hW2;go_at_call 142;refine (qBc (fun _ => True) r halfR _ _ W2 (Up.any _) hr2'.out hhalf'.out (hsz0'.out.up (by decide)) (halfR_sz.up (by decide))).mono ?_;rintro e W3 ⟨v3, rfl, hle3, hr3⟩;rw [hb'.out] at hr3;obtain ⟨Bn, dn, Bd, dd, rfl, hbn, hbd⟩ := hr3.form;rw [hsb'.out];obtain ⟨W4, hW4, hle4, kb⟩ := al1 W3 (.cells #[.bool false, .slice Bn (dg (rnum b)).length dn, .slice Bd (dg b.den).length dd] 131);obtain ⟨d0, d1, d2, -⟩ := qAD kb;have hbn4 := hbn.le hle4;have hbd4 := hbd.le hle4;have hle04 := ((hle1'.out.trans hle2'.out).trans hle3).trans hle4;have ms1 := hbs'.out.1;have ms2 := hbs'.out.2;have hd0 := Nat.ne_of_gt (qAc b);have hover := qC6 (fun _ => True) (rnum b) b.den _ _ W4 (Up.any _) hbn4 hbd4 (by omega) (by omega) hd0
 rw [hq0'.out, hm0'.out] at hover;have hlq : (dg N).length ≤ 2001 := by rw [← hq0'.out]; exact Nat.le_trans (qAK (Nat.div_le_self _ _)) ms1
 have ⟨hle3', hr3', hbn', hbd', hle4', kb', hbn4', hbd4'⟩ := hyd8 hle3 hr3 hbn hbd hle4 kb hbn4 hbd4;have ⟨hle04', ms1', ms2', hd0', hover', hlq'⟩ := hyd6 hle04 ms1 ms2 hd0 hover hlq;clear hlq hover hd0 ms2 ms1 hle04 hbd4 hbn4 kb hle4 hbd hbn hr3 hle3;go_wp2_with (fail);clear hW4;go_at_call 146;refine hover'.out.mono ?_;rintro e W5 ⟨vq, vm, rfl, hle5, hq5, hm5⟩;obtain ⟨Aq, cq, rfl⟩ := hq5.slice;obtain ⟨Am, cm, rfl⟩ := hm5.slice;have kb5 := (hle5.block _ (gsl kb'.out)).trans kb'.out;clear d0 d1 d2;obtain ⟨d0, d1, d2, -⟩ := qAD kb5;have hle05 := hle04'.out.trans hle5;have hl8 : (dg N).length ≤ 100000000 := by have := hlq'.out; omega
 have hq8 := hq5;have kb8 := kb5;have hle08 := hle05;have ⟨hle5', hq5', hm5', kb5', hle05', hq8', kb8', hle08'⟩ := hyd8 hle5 hq5 hm5 kb5 hle05 hq8 kb8 hle08;clear hle08 kb8 hq8 hle05 kb5 hm5 hq5 hle5
 -- the number is there: q8, in W5
 obtain ⟨F, hF⟩ : ∃ F : Nat, F = 4611686018427387904 := ⟨_, rfl⟩;have hFi : (F : Int) = 4611686018427387904 := by rw [hF]; rfl
 have hsm := qCG F W5 (by omega);rw [hFi] at hsm;have ⟨hsm', hF', hFi'⟩ := hyd3 hsm hF hFi;clear hFi hF hsm;go_wp2_with (fail);go_at_call 111;refine hsm'.out.mono ?_;rintro e W9 ⟨v9, rfl, hle9, hown9⟩;have hn9 : NumL (fun _ => True) .u32 W9 v9 F := ArrL.of_own hown9 (fun _ _ => trivial);obtain ⟨A9, c9, rfl⟩ := hn9.slice;have hq9 := hq8'.out.le hle9;have hcmp := qBS (fun _ => True) N F _ _ W9 hq9 hn9 (by omega) (Nat.le_trans (qBp (by have := hF'.out; omega)) (by decide));have kb9 := (Below.block hle9 _ (gsl kb8'.out)).trans kb8'.out;have hle09 := hle08'.out.trans hle9;have ⟨hle9', hown9', hn9', hq9', hcmp', kb9', hle09'⟩ := hyd7 hle9 hown9 hn9 hq9 hcmp kb9 hle09;clear hle09 kb9 hcmp hq9 hn9 hown9 hle9;go_wp2_with (fail);go_at_call 148;refine hcmp'.out.mono ?_;rintro e W10 ⟨cc, rfl, hle10, hc1, hc2⟩;have kb10 := (Below.block hle10 _ (gsl kb9'.out)).trans kb9'.out;have hle010 := hle09'.out.trans hle10;have hq10 := hq9'.out.le hle10;obtain ⟨e0, e1, e2, -⟩ := qAD kb10
 have hcd : cc ≤ 0 ↔ N ≤ 4611686018427387904 := by
  have hF := hF'.out;constructor
  ·intro h
   rcases Int.lt_or_eq_of_le h with h | h
   ·have := hc1.1 h; omega
   ·have := hc2.1 h; omega
  ·intro h
   rcases Nat.lt_or_eq_of_le h with h | h
   ·have := hc1.2 (by omega); omega
   ·have := hc2.2 (by omega); omega
 have hcn : decide (cc ≤ 0) = false := decide_eq_false (fun h => absurd (hcd.1 h) (by omega));have ⟨hle10', hc1', hc2', kb10', hle010', hq10', hcd'⟩ := hyd7 hle10 hc1 hc2 kb10 hle010 hq10 hcd;clear hcd hq10 hle010 kb10 hc2 hc1 hle10;go_wp2_with (fail);go_at_call 84;refine (qAz _ _).mono ?_;rintro e W11 ⟨rfl, rfl⟩;go_wp2_with (fail);exact ⟨rfl, hle010'.out, .inr ⟨by rw [hE'.out]; decide, by rw [hE'.out]⟩⟩
theorem qFu (x : FracA) (r : Rat) (Bx : Nat) (va : Value) (w : World) (hx : FBox w Bx va x) (hr : x.rat? = some r) (N q0 m0 : Nat) (hN : qBM r = N) (hq0 : rnum (r + halfR) / (r + halfR).den = q0) (hm0 : rnum (r + halfR) % (r + halfR).den = m0) (hfit : 4611686018427387904 < N) (hsb : rneg (r + halfR) = true) (hm0p : m0 = 0) :
  Calls Tryz.prog 145 #[.pointer (some ⟨Bx, 0, none⟩)] w (qCZ x w) := by
 obtain ⟨A, c, A', c', rfl, kx, hxa⟩ := hx;obtain ⟨a0, a1, a2, a3⟩ := qA3 kx;have hsz0 := FracA.sz hr;obtain ⟨b, hb⟩ : ∃ b, r + halfR = b := ⟨_, rfl⟩;rw [hb] at hq0 hm0 hsb;have hbs : Rsz b 2001 := by rw [← hb]; exact qCS (n := 1000) (hsz0.up (by decide)) (halfR_sz.up (by decide))
 have hE : qAT x = (0, 12) := by
  unfold qAT qBd;rw [hr];simp only [hN];rw [decide_eq_false (show ¬ N ≤ 4611686018427387904 by omega)]
  rfl
 have hNE : q0 = N := by
  rw [← hN, ← hq0];unfold qBM;rw [hb, hsb];rw [hm0, if_neg (by rw [hm0p]; simp)]; rfl
 obtain rfl : N = q0 := hNE.symm;have ⟨kx', hxa', hr', hN', hsz0', hb', hbs', hE'⟩ := hyd8 kx hxa hr hN hsz0 hb hbs hE;have ⟨hNE', hsb', hq0', hm0'⟩ := hyd4 hNE hsb hq0 hm0;clear hm0 hq0 hsb hNE hE hbs hb hsz0 hN hr hxa kx;go_enter Tryz.func145, Tryz.ntmps145;go_wp2_with (fail);go_at_call 137;refine (qBq (fun _ => True) x r _ _ (Up.any _) hxa'.out hr'.out).mono ?_;rintro e W1 ⟨v1, rfl, hle1, hr1⟩;have hr10 := hr1;obtain ⟨A1, c1, A2, c2, rfl, -, -⟩ := hr1.form;obtain ⟨W2, hW2, hsz2, hle2, -, -⟩ := qA6 W1 (.cells #[.int .u32 1] 196) (.cells #[.int .u32 2] 196);have hhalf := qDS W1 196;rw [hW2] at hhalf;have hr2 := hr10.le hle2;have ⟨hle1', hr1', hr10', hle2', hhalf', hr2'⟩ := hyd6 hle1 hr1 hr10 hle2 hhalf hr2;clear hr2 hhalf hle2 hr10 hr1 hle1;go_wp2_with (fail);clear hW2;go_at_call 142;refine (qBc (fun _ => True) r halfR _ _ W2 (Up.any _) hr2'.out hhalf'.out (hsz0'.out.up (by decide)) (halfR_sz.up (by decide))).mono ?_;rintro e W3 ⟨v3, rfl, hle3, hr3⟩;rw [hb'.out] at hr3;obtain ⟨Bn, dn, Bd, dd, rfl, hbn, hbd⟩ := hr3.form;rw [hsb'.out];obtain ⟨W4, hW4, hle4, kb⟩ := al1 W3 (.cells #[.bool true, .slice Bn (dg (rnum b)).length dn, .slice Bd (dg b.den).length dd] 131);obtain ⟨d0, d1, d2, -⟩ := qAD kb;have hbn4 := hbn.le hle4;have hbd4 := hbd.le hle4;have hle04 := ((hle1'.out.trans hle2'.out).trans hle3).trans hle4;have ms1 := hbs'.out.1;have ms2 := hbs'.out.2;have hd0 := Nat.ne_of_gt (qAc b);have hover := qC6 (fun _ => True) (rnum b) b.den _ _ W4 (Up.any _) hbn4 hbd4 (by omega) (by omega) hd0
 rw [hq0'.out, hm0'.out] at hover;have hlq : (dg N).length ≤ 2001 := by rw [← hq0'.out]; exact Nat.le_trans (qAK (Nat.div_le_self _ _)) ms1
 have ⟨hle3', hr3', hbn', hbd', hle4', kb', hbn4', hbd4'⟩ := hyd8 hle3 hr3 hbn hbd hle4 kb hbn4 hbd4;have ⟨hle04', ms1', ms2', hd0', hover', hlq'⟩ := hyd6 hle04 ms1 ms2 hd0 hover hlq;clear hlq hover hd0 ms2 ms1 hle04 hbd4 hbn4 kb hle4 hbd hbn hr3 hle3;go_wp2_with (fail);clear hW4;go_at_call 146;refine hover'.out.mono ?_;rintro e W5 ⟨vq, vm, rfl, hle5, hq5, hm5⟩;obtain ⟨Aq, cq, rfl⟩ := hq5.slice;obtain ⟨Am, cm, rfl⟩ := hm5.slice;have kb5 := (hle5.block _ (gsl kb'.out)).trans kb'.out;clear d0 d1 d2;obtain ⟨d0, d1, d2, -⟩ := qAD kb5;have hle05 := hle04'.out.trans hle5;have hl8 : (dg N).length ≤ 100000000 := by have := hlq'.out; omega
 have hq8 := hq5;have kb8 := kb5;have hle08 := hle05;have hl1 : (dg m0).length = 0 := by rw [hm0p, qAf]; rfl
 rw [hl1];clear hl1;have ⟨hle5', hq5', hm5', kb5', hle05', hq8', kb8', hle08'⟩ := hyd8 hle5 hq5 hm5 kb5 hle05 hq8 kb8 hle08;clear hle08 kb8 hq8 hle05 kb5 hm5 hq5 hle5
 -- the number is there: q8, in W5
 obtain ⟨F, hF⟩ : ∃ F : Nat, F = 4611686018427387904 := ⟨_, rfl⟩;have hFi : (F : Int) = 4611686018427387904 := by rw [hF]; rfl
 have hsm := qCG F W5 (by omega);rw [hFi] at hsm;have ⟨hsm', hF', hFi'⟩ := hyd3 hsm hF hFi;clear hFi hF hsm;go_wp2_with (fail);go_at_call 111;refine hsm'.out.mono ?_;rintro e W9 ⟨v9, rfl, hle9, hown9⟩;have hn9 : NumL (fun _ => True) .u32 W9 v9 F := ArrL.of_own hown9 (fun _ _ => trivial);obtain ⟨A9, c9, rfl⟩ := hn9.slice;have hq9 := hq8'.out.le hle9;have hcmp := qBS (fun _ => True) N F _ _ W9 hq9 hn9 (by omega) (Nat.le_trans (qBp (by have := hF'.out; omega)) (by decide));have kb9 := (Below.block hle9 _ (gsl kb8'.out)).trans kb8'.out;have hle09 := hle08'.out.trans hle9;have ⟨hle9', hown9', hn9', hq9', hcmp', kb9', hle09'⟩ := hyd7 hle9 hown9 hn9 hq9 hcmp kb9 hle09;clear hle09 kb9 hcmp hq9 hn9 hown9 hle9;go_wp2_with (fail);go_at_call 148;refine hcmp'.out.mono ?_;rintro e W10 ⟨cc, rfl, hle10, hc1, hc2⟩;have kb10 := (Below.block hle10 _ (gsl kb9'.out)).trans kb9'.out;have hle010 := hle09'.out.trans hle10;have hq10 := hq9'.out.le hle10;obtain ⟨e0, e1, e2, -⟩ := qAD kb10
 have hcd : cc ≤ 0 ↔ N ≤ 4611686018427387904 := by
  have hF := hF'.out;constructor
  ·intro h
   rcases Int.lt_or_eq_of_le h with h | h
   ·have := hc1.1 h; omega
   ·have := hc2.1 h; omega
  ·intro h
   rcases Nat.lt_or_eq_of_le h with h | h
   ·have := hc1.2 (by omega); omega
   ·have := hc2.2 (by omega); omega
 have hcn : decide (cc ≤ 0) = false := decide_eq_false (fun h => absurd (hcd.1 h) (by omega));have ⟨hle10', hc1', hc2', kb10', hle010', hq10', hcd'⟩ := hyd7 hle10 hc1 hc2 kb10 hle010 hq10 hcd;clear hcd hq10 hle010 kb10 hc2 hc1 hle10;go_wp2_with (fail);go_at_call 84;refine (qAz _ _).mono ?_;rintro e W11 ⟨rfl, rfl⟩;go_wp2_with (fail);exact ⟨rfl, hle010'.out, .inr ⟨by rw [hE'.out]; decide, by rw [hE'.out]⟩⟩
theorem qFv (x : FracA) (r : Rat) (Bx : Nat) (va : Value) (w : World) (hx : FBox w Bx va x) (hr : x.rat? = some r) (N q0 m0 : Nat) (hN : qBM r = N) (hq0 : rnum (r + halfR) / (r + halfR).den = q0) (hm0 : rnum (r + halfR) % (r + halfR).den = m0) (hfit : N ≤ 4611686018427387904) (hsb : rneg (r + halfR) = true) (hm0p : m0 ≠ 0) :
  Calls Tryz.prog 145 #[.pointer (some ⟨Bx, 0, none⟩)] w (qCZ x w) := by
 obtain ⟨A, c, A', c', rfl, kx, hxa⟩ := hx;obtain ⟨a0, a1, a2, a3⟩ := qA3 kx;have hsz0 := FracA.sz hr;obtain ⟨b, hb⟩ : ∃ b, r + halfR = b := ⟨_, rfl⟩;rw [hb] at hq0 hm0 hsb;have hbs : Rsz b 2001 := by rw [← hb]; exact qCS (n := 1000) (hsz0.up (by decide)) (halfR_sz.up (by decide))
 have hE : qAT x = (sg true N, 0) := by
  unfold qAT qBd;rw [hr];simp only [hN];rw [decide_eq_true hfit];simp only [if_true];unfold qEH;rw [hN, if_pos hfit, hb, hsb]
 have hNE : q0 + 1 = N := by
  rw [← hN, ← hq0];unfold qBM;rw [hb, hsb];rw [hm0];rw [if_pos ⟨rfl, hm0p⟩]
 have ⟨kx', hxa', hr', hN', hsz0', hb', hbs', hE'⟩ := hyd8 kx hxa hr hN hsz0 hb hbs hE;have ⟨hNE', hsb', hq0', hm0'⟩ := hyd4 hNE hsb hq0 hm0;clear hm0 hq0 hsb hNE hE hbs hb hsz0 hN hr hxa kx;refine (callsIn_wide (n := 5)).1 ?_;refine callsIn_of_wp_marks Tryz.func145 rfl trivial ?_ rfl;simp only [Tryz.ntmps145, List.size_toArray, List.length_cons, List.length_nil, Nat.reduceAdd, Nat.reduceSub, Array.replicate_succ, Array.replicate_zero, List.push_toArray, List.append_toArray, List.nil_append, List.cons_append];refine wpIn_wide.2 ?_;go_wp2_with (fail);go_at_call 137;refine (qBq (fun _ => True) x r _ _ (Up.any _) hxa'.out hr'.out).mono ?_;rintro e W1 ⟨v1, rfl, hle1, hr1⟩;have hr10 := hr1;obtain ⟨A1, c1, A2, c2, rfl, -, -⟩ := hr1.form;obtain ⟨W2, hW2, hsz2, hle2, -, -⟩ := qA6 W1 (.cells #[.int .u32 1] 196) (.cells #[.int .u32 2] 196);have hhalf := qDS W1 196;rw [hW2] at hhalf;have hr2 := hr10.le hle2;have ⟨hle1', hr1', hr10', hle2', hhalf', hr2'⟩ := hyd6 hle1 hr1 hr10 hle2 hhalf hr2;clear hr2 hhalf hle2 hr10 hr1 hle1;go_wp2_with (fail);clear hW2;go_at_call 142;refine (qBc (fun _ => True) r halfR _ _ W2 (Up.any _) hr2'.out hhalf'.out (hsz0'.out.up (by decide)) (halfR_sz.up (by decide))).mono ?_;rintro e W3 ⟨v3, rfl, hle3, hr3⟩;rw [hb'.out] at hr3;obtain ⟨Bn, dn, Bd, dd, rfl, hbn, hbd⟩ := hr3.form;rw [hsb'.out];obtain ⟨W4, hW4, hle4, kb⟩ := al1 W3 (.cells #[.bool true, .slice Bn (dg (rnum b)).length dn, .slice Bd (dg b.den).length dd] 131);obtain ⟨d0, d1, d2, -⟩ := qAD kb;have hbn4 := hbn.le hle4
 have hbd4 := hbd.le hle4;have hle04 := ((hle1'.out.trans hle2'.out).trans hle3).trans hle4;have ms1 := hbs'.out.1;have ms2 := hbs'.out.2;have hd0 := Nat.ne_of_gt (qAc b);have hover := qC6 (fun _ => True) (rnum b) b.den _ _ W4 (Up.any _) hbn4 hbd4 (by omega) (by omega) hd0;rw [hq0'.out, hm0'.out] at hover;have hlq : (dg q0).length ≤ 2001 := by rw [← hq0'.out]; exact Nat.le_trans (qAK (Nat.div_le_self _ _)) ms1
 have ⟨hle3', hr3', hbn', hbd', hle4', kb', hbn4', hbd4'⟩ := hyd8 hle3 hr3 hbn hbd hle4 kb hbn4 hbd4;have ⟨hle04', ms1', ms2', hd0', hover', hlq'⟩ := hyd6 hle04 ms1 ms2 hd0 hover hlq;clear hlq hover hd0 ms2 ms1 hle04 hbd4 hbn4 kb hle4 hbd hbn hr3 hle3;go_wp2_with (fail);clear hW4;go_at_call 146;refine hover'.out.mono ?_;rintro e W5 ⟨vq, vm, rfl, hle5, hq5, hm5⟩;obtain ⟨Aq, cq, rfl⟩ := hq5.slice;obtain ⟨Am, cm, rfl⟩ := hm5.slice;have kb5 := (hle5.block _ (gsl kb'.out)).trans kb'.out;clear d0 d1 d2;obtain ⟨d0, d1, d2, -⟩ := qAD kb5;have hle05 := hle04'.out.trans hle5;have hl1 : 0 < ((dg m0).length : Int) := by have := dg_length_pos.2 hm0p; omega
 have hl2 : 0 < (dg m0).length := dg_length_pos.2 hm0p;have hone := qBI (L := fun _ => True) (k := .u32) (V := W5) (g := 1) (fun _ _ => trivial) (by omega) qCE 196;obtain ⟨W6, hW6, hle6⟩ : ∃ W6, W5.alloc (.cells #[.int .u32 1] 196) = W6 ∧ Le W5 W6 := ⟨_, rfl, qAA _ _⟩;rw [show ((1 : Nat) : Int) = 1 from rfl, hW6] at hone;have hpl := qGs (fun _ => True) q0 1 _ _ W6 (Up.any _) (hq5.le hle6) hone (by have := hlq'.out; omega) (by rw [qCg]; simp);rw [hNE'.out] at hpl;have ⟨hle5', hq5', hm5', kb5', hle05', hone', hle6', hpl'⟩ := hyd8 hle5 hq5 hm5 kb5 hle05 hone hle6 hpl;clear hpl hle6 hone hle05 kb5 hm5 hq5 hle5;go_wp2_with (fail);clear hW6;go_at_call 147;refine hpl'.out.mono ?_;rintro e W8 ⟨v8, rfl, hle7, hq8⟩;obtain ⟨A8, c8, rfl⟩ := hq8.slice;have kb8 := ((hle6'.out.trans hle7).block _ (gsl kb5'.out)).trans kb5'.out;have hle08 := hle05'.out.trans (hle6'.out.trans hle7)
 have hl8 : (dg N).length ≤ 100000000 := by
  have h1 := qCL q0 1;rw [hNE'.out] at h1;have h2 := hlq'.out;have h3 : (dg 1).length = 1 := by rw [qCg]; rfl
  omega
 clear d0 d1 d2 hl1 hl2;have ⟨hle7', hq8', kb8', hle08'⟩ := hyd4 hle7 hq8 kb8 hle08;clear hle08 kb8 hq8 hle7
 -- the number is there: q8, in W8
 obtain ⟨F, hF⟩ : ∃ F : Nat, F = 4611686018427387904 := ⟨_, rfl⟩;have hFi : (F : Int) = 4611686018427387904 := by rw [hF]; rfl
 have hsm := qCG F W8 (by omega);rw [hFi] at hsm;have ⟨hsm', hF', hFi'⟩ := hyd3 hsm hF hFi;clear hFi hF hsm;go_wp2_with (fail);go_at_call 111;refine hsm'.out.mono ?_;rintro e W9 ⟨v9, rfl, hle9, hown9⟩;have hn9 : NumL (fun _ => True) .u32 W9 v9 F := ArrL.of_own hown9 (fun _ _ => trivial);obtain ⟨A9, c9, rfl⟩ := hn9.slice;have hq9 := hq8'.out.le hle9;have hcmp := qBS (fun _ => True) N F _ _ W9 hq9 hn9 (by omega) (Nat.le_trans (qBp (by have := hF'.out; omega)) (by decide));have kb9 := (Below.block hle9 _ (gsl kb8'.out)).trans kb8'.out;have hle09 := hle08'.out.trans hle9;have ⟨hle9', hown9', hn9', hq9', hcmp', kb9', hle09'⟩ := hyd7 hle9 hown9 hn9 hq9 hcmp kb9 hle09;clear hle09 kb9 hcmp hq9 hn9 hown9 hle9;go_wp2_with (fail);go_at_call 148;refine hcmp'.out.mono ?_;rintro e W10 ⟨cc, rfl, hle10, hc1, hc2⟩;have kb10 := (Below.block hle10 _ (gsl kb9'.out)).trans kb9'.out;have hle010 := hle09'.out.trans hle10;have hq10 := hq9'.out.le hle10;obtain ⟨e0, e1, e2, -⟩ := qAD kb10
 have hcd : cc ≤ 0 ↔ N ≤ 4611686018427387904 := by
  have hF := hF'.out;constructor
  ·intro h
   rcases Int.lt_or_eq_of_le h with h | h
   ·have := hc1.1 h; omega
   ·have := hc2.1 h; omega
  ·intro h
   rcases Nat.lt_or_eq_of_le h with h | h
   ·have := hc1.2 (by omega); omega
   ·have := hc2.2 (by omega); omega
 have hcn : cc ≤ 0 := hcd.2 hfit;have ⟨hle10', hc1', hc2', kb10', hle010', hq10', hcd'⟩ := hyd7 hle10 hc1 hc2 kb10 hle010 hq10 hcd;clear hcd hq10 hle010 kb10 hc2 hc1 hle10;go_wp2_with (fail);go_at_call 84;refine (qBF _ _).mono ?_;rintro e W11 ⟨rfl, rfl⟩;go_wp2_with (first | (go_at_call 149; ((with_reducible refine (qCP _ _ _ _).mono ?_); rintro e w' ⟨rfl, rfl⟩)));obtain ⟨W0, hW0, hsz, hBW, h0, h1⟩ := qA6 W10 (.cells #[.int .i64 0] 3) (.cells #[.slice A8 (dg N).length c8] 129);rw [hW0];clear hW0;have hyield := qBb (dg N) _ W10 W0 (W10.heap.size + 1) W10.heap.size hq10'.out.arr (by omega) (by omega) (Nat.le_refl _) hBW (qAF h1);have hkbl := (gsl kb10'.out);have hleW0 := hle010'.out.trans hBW;have hwz := hle010'.out.size;refine (wpIn_wide (n := 5)).1 ?_;refine wpIn_rangeFunc_ownG rfl (by omega) (gf := 187) (lb := #[.pointer (some ⟨W10.heap.size + 1, 0, none⟩)]) rfl trivial (enters_of Tryz.func187 (by kernel_rfl) rfl)
  hyield Kept.trans (Kept.put (by omega) (by simp; omega)) (Below.refl _ _) (fun _ => rfl)
  (NearI W0 W10.heap.size W10.heap.size 3 [W10.heap.size + 1] N) (fun _ _ _ => False) (NearI.from _ _ _ _ _ _ _ (Nat.le_refl _) (by omega) (by omega) (by simp; omega)) (fun _ _ _ _ _ hs _ _ => hs)
  ⟨Kept.refl _ _ _, Nat.le_refl _, 0, h0, fun _ => by simp [nv]⟩ ?_ ?_ ?_ ?_ ?_
 rotate_left
 ·intro l x9 W K hK;dsimp only [qDs];gi_wp2;exact hK
 ·rintro l pre x9 W ⟨k1, k2, z, g5, g6⟩ hlen2;have hx9 := x9.2;obtain ⟨m, hm⟩ : ∃ m, (dg N).length - 1 - x9.1 = m := ⟨_, rfl⟩;obtain ⟨g, hg⟩ : ∃ g, (dg N)[m]?.getD 0 = g := ⟨_, rfl⟩
  have hgB : g < 1000000000 := by
   rw [← hg, ← qAS, ← List.getD_eq_getElem?_getD];exact qAt (qAW N) m
  have cR := qAF g5;have fR := fz0 g5 0;have hfin := fun aa => NearI.step (N0 := W0.heap.size) (x := x9) hfit k1 k2 g5 g6 m g hm hg (Nat.le_refl _) (by simp) aa;rw [hm, hg];clear hyield k1 k2 g6 h0 h1;have ⟨hg', hm', hfin', g5'⟩ := hyd4 hg hm hfin g5;clear g5 hfin hm hg;gi_wp2;exact hfin'.out _
 ·rintro D ys W hD rfl ⟨k1, k2, z, g5, g6⟩ hDK;have hz := g6 (qBW _);rw [List.length_finRange, Nat.sub_self, List.drop_zero, qA4] at hz;subst hz;have cR := qAF g5;have kbW := ((Below.trans hBW k1.1).block _ hkbl).trans kb10'.out;have hLe : Le w W := Below.trans hleW0 (k1.1.mono (by omega));clear e0 e1 e2;obtain ⟨e0, e1, e2, -⟩ := qAD kbW;have hbN : (N : Int) ≤ 4611686018427387904 := by omega
  clear hyield k1 h0 h1 g6 g5 hBW hleW0;have ⟨hDK', hLe', kbW'⟩ := hyd3 hDK hLe kbW;clear kbW hLe hDK;go_wp2;refine qAZ w.heap.size [{ target := .collected D, args := #[] }] _ ⟨⟨D, rfl, by omega, hDK'.out, by simp⟩, trivial⟩ fun w9 hb hkeep => ?_;refine ⟨_, results_tmp rfl _ _ _, Below.trans hLe'.out hb, .inl ⟨by rw [hE'.out], ?_⟩⟩;rw [hE'.out]
  rfl
 ·rintro D cc9 pre W _ _ h _;exact h.elim
theorem qFw (x : FracA) (r : Rat) (Bx : Nat) (va : Value) (w : World) (hx : FBox w Bx va x) (hr : x.rat? = some r) (N q0 m0 : Nat) (hN : qBM r = N) (hq0 : rnum (r + halfR) / (r + halfR).den = q0) (hm0 : rnum (r + halfR) % (r + halfR).den = m0) (hfit : N ≤ 4611686018427387904) (hsb : rneg (r + halfR) = false) :
  Calls Tryz.prog 145 #[.pointer (some ⟨Bx, 0, none⟩)] w (qCZ x w) := by
 obtain ⟨A, c, A', c', rfl, kx, hxa⟩ := hx;obtain ⟨a0, a1, a2, a3⟩ := qA3 kx;have hsz0 := FracA.sz hr;obtain ⟨b, hb⟩ : ∃ b, r + halfR = b := ⟨_, rfl⟩;rw [hb] at hq0 hm0 hsb;have hbs : Rsz b 2001 := by rw [← hb]; exact qCS (n := 1000) (hsz0.up (by decide)) (halfR_sz.up (by decide))
 have hE : qAT x = (sg false N, 0) := by
  unfold qAT qBd;rw [hr];simp only [hN];rw [decide_eq_true hfit];simp only [if_true];unfold qEH;rw [hN, if_pos hfit, hb, hsb]
 have hNE : q0 = N := by
  rw [← hN, ← hq0];unfold qBM;rw [hb, hsb];rw [if_neg (by simp)]; rfl
 obtain rfl : N = q0 := hNE.symm;have ⟨kx', hxa', hr', hN', hsz0', hb', hbs', hE'⟩ := hyd8 kx hxa hr hN hsz0 hb hbs hE;have ⟨hNE', hsb', hq0', hm0'⟩ := hyd4 hNE hsb hq0 hm0;clear hm0 hq0 hsb hNE hE hbs hb hsz0 hN hr hxa kx;refine (callsIn_wide (n := 5)).1 ?_;refine callsIn_of_wp_marks Tryz.func145 rfl trivial ?_ rfl;simp only [Tryz.ntmps145, List.size_toArray, List.length_cons, List.length_nil, Nat.reduceAdd, Nat.reduceSub, Array.replicate_succ, Array.replicate_zero, List.push_toArray, List.append_toArray, List.nil_append, List.cons_append];refine wpIn_wide.2 ?_;go_wp2_with (fail);go_at_call 137;refine (qBq (fun _ => True) x r _ _ (Up.any _) hxa'.out hr'.out).mono ?_;rintro e W1 ⟨v1, rfl, hle1, hr1⟩;have hr10 := hr1;obtain ⟨A1, c1, A2, c2, rfl, -, -⟩ := hr1.form;obtain ⟨W2, hW2, hsz2, hle2, -, -⟩ := qA6 W1 (.cells #[.int .u32 1] 196) (.cells #[.int .u32 2] 196);have hhalf := qDS W1 196;rw [hW2] at hhalf;have hr2 := hr10.le hle2;have ⟨hle1', hr1', hr10', hle2', hhalf', hr2'⟩ := hyd6 hle1 hr1 hr10 hle2 hhalf hr2;clear hr2 hhalf hle2 hr10 hr1 hle1;go_wp2_with (fail);clear hW2;go_at_call 142;refine (qBc (fun _ => True) r halfR _ _ W2 (Up.any _) hr2'.out hhalf'.out (hsz0'.out.up (by decide)) (halfR_sz.up (by decide))).mono ?_;rintro e W3 ⟨v3, rfl, hle3, hr3⟩;rw [hb'.out] at hr3;obtain ⟨Bn, dn, Bd, dd, rfl, hbn, hbd⟩ := hr3.form;rw [hsb'.out];obtain ⟨W4, hW4, hle4, kb⟩ := al1 W3 (.cells #[.bool false, .slice Bn (dg (rnum b)).length dn, .slice Bd (dg b.den).length dd] 131);obtain ⟨d0, d1, d2, -⟩ := qAD kb
 have hbn4 := hbn.le hle4;have hbd4 := hbd.le hle4;have hle04 := ((hle1'.out.trans hle2'.out).trans hle3).trans hle4;have ms1 := hbs'.out.1;have ms2 := hbs'.out.2;have hd0 := Nat.ne_of_gt (qAc b);have hover := qC6 (fun _ => True) (rnum b) b.den _ _ W4 (Up.any _) hbn4 hbd4 (by omega) (by omega) hd0;rw [hq0'.out, hm0'.out] at hover;have hlq : (dg N).length ≤ 2001 := by rw [← hq0'.out]; exact Nat.le_trans (qAK (Nat.div_le_self _ _)) ms1
 have ⟨hle3', hr3', hbn', hbd', hle4', kb', hbn4', hbd4'⟩ := hyd8 hle3 hr3 hbn hbd hle4 kb hbn4 hbd4;have ⟨hle04', ms1', ms2', hd0', hover', hlq'⟩ := hyd6 hle04 ms1 ms2 hd0 hover hlq;clear hlq hover hd0 ms2 ms1 hle04 hbd4 hbn4 kb hle4 hbd hbn hr3 hle3;go_wp2_with (fail);clear hW4;go_at_call 146;refine hover'.out.mono ?_;rintro e W5 ⟨vq, vm, rfl, hle5, hq5, hm5⟩;obtain ⟨Aq, cq, rfl⟩ := hq5.slice;obtain ⟨Am, cm, rfl⟩ := hm5.slice;have kb5 := (hle5.block _ (gsl kb'.out)).trans kb'.out;clear d0 d1 d2;obtain ⟨d0, d1, d2, -⟩ := qAD kb5;have hle05 := hle04'.out.trans hle5;have hl8 : (dg N).length ≤ 100000000 := by have := hlq'.out; omega
 have hq8 := hq5;have kb8 := kb5;have hle08 := hle05;have ⟨hle5', hq5', hm5', kb5', hle05', hq8', kb8', hle08'⟩ := hyd8 hle5 hq5 hm5 kb5 hle05 hq8 kb8 hle08;clear hle08 kb8 hq8 hle05 kb5 hm5 hq5 hle5
 -- the number is there: q8, in W5
 obtain ⟨F, hF⟩ : ∃ F : Nat, F = 4611686018427387904 := ⟨_, rfl⟩;have hFi : (F : Int) = 4611686018427387904 := by rw [hF]; rfl
 have hsm := qCG F W5 (by omega);rw [hFi] at hsm;have ⟨hsm', hF', hFi'⟩ := hyd3 hsm hF hFi;clear hFi hF hsm;go_wp2_with (fail);go_at_call 111;refine hsm'.out.mono ?_;rintro e W9 ⟨v9, rfl, hle9, hown9⟩;have hn9 : NumL (fun _ => True) .u32 W9 v9 F := ArrL.of_own hown9 (fun _ _ => trivial);obtain ⟨A9, c9, rfl⟩ := hn9.slice;have hq9 := hq8'.out.le hle9;have hcmp := qBS (fun _ => True) N F _ _ W9 hq9 hn9 (by omega) (Nat.le_trans (qBp (by have := hF'.out; omega)) (by decide));have kb9 := (Below.block hle9 _ (gsl kb8'.out)).trans kb8'.out;have hle09 := hle08'.out.trans hle9;have ⟨hle9', hown9', hn9', hq9', hcmp', kb9', hle09'⟩ := hyd7 hle9 hown9 hn9 hq9 hcmp kb9 hle09;clear hle09 kb9 hcmp hq9 hn9 hown9 hle9;go_wp2_with (fail);go_at_call 148;refine hcmp'.out.mono ?_;rintro e W10 ⟨cc, rfl, hle10, hc1, hc2⟩;have kb10 := (Below.block hle10 _ (gsl kb9'.out)).trans kb9'.out;have hle010 := hle09'.out.trans hle10;have hq10 := hq9'.out.le hle10;obtain ⟨e0, e1, e2, -⟩ := qAD kb10
 have hcd : cc ≤ 0 ↔ N ≤ 4611686018427387904 := by
  have hF := hF'.out;constructor
  ·intro h
   rcases Int.lt_or_eq_of_le h with h | h
   ·have := hc1.1 h; omega
   ·have := hc2.1 h; omega
  ·intro h
   rcases Nat.lt_or_eq_of_le h with h | h
   ·have := hc1.2 (by omega); omega
   ·have := hc2.2 (by omega); omega
 have hcn : cc ≤ 0 := hcd.2 hfit;have ⟨hle10', hc1', hc2', kb10', hle010', hq10', hcd'⟩ := hyd7 hle10 hc1 hc2 kb10 hle010 hq10 hcd;clear hcd hq10 hle010 kb10 hc2 hc1 hle10;go_wp2_with (fail);go_at_call 84;refine (qBF _ _).mono ?_;rintro e W11 ⟨rfl, rfl⟩;go_wp2_with (first | (go_at_call 149; ((with_reducible refine (qCP _ _ _ _).mono ?_); rintro e w' ⟨rfl, rfl⟩)));obtain ⟨W0, hW0, hsz, hBW, h0, h1⟩ := qA6 W10 (.cells #[.int .i64 0] 3) (.cells #[.slice Aq (dg N).length cq] 129);rw [hW0];clear hW0;have hyield := qBb (dg N) _ W10 W0 (W10.heap.size + 1) W10.heap.size hq10'.out.arr (by omega) (by omega) (Nat.le_refl _) hBW (qAF h1);have hkbl := (gsl kb10'.out);have hleW0 := hle010'.out.trans hBW;have hwz := hle010'.out.size;refine (wpIn_wide (n := 5)).1 ?_;refine wpIn_rangeFunc_ownG rfl (by omega) (gf := 187) (lb := #[.pointer (some ⟨W10.heap.size + 1, 0, none⟩)]) rfl trivial (enters_of Tryz.func187 (by kernel_rfl) rfl)
  hyield Kept.trans (Kept.put (by omega) (by simp; omega)) (Below.refl _ _) (fun _ => rfl)
  (NearI W0 W10.heap.size W10.heap.size 3 [W10.heap.size + 1] N) (fun _ _ _ => False) (NearI.from _ _ _ _ _ _ _ (Nat.le_refl _) (by omega) (by omega) (by simp; omega)) (fun _ _ _ _ _ hs _ _ => hs)
  ⟨Kept.refl _ _ _, Nat.le_refl _, 0, h0, fun _ => by simp [nv]⟩ ?_ ?_ ?_ ?_ ?_
 rotate_left
 ·intro l x9 W K hK;dsimp only [qDs];gi_wp2;exact hK
 ·rintro l pre x9 W ⟨k1, k2, z, g5, g6⟩ hlen2;have hx9 := x9.2;obtain ⟨m, hm⟩ : ∃ m, (dg N).length - 1 - x9.1 = m := ⟨_, rfl⟩;obtain ⟨g, hg⟩ : ∃ g, (dg N)[m]?.getD 0 = g := ⟨_, rfl⟩
  have hgB : g < 1000000000 := by
   rw [← hg, ← qAS, ← List.getD_eq_getElem?_getD];exact qAt (qAW N) m
  have cR := qAF g5;have fR := fz0 g5 0;have hfin := fun aa => NearI.step (N0 := W0.heap.size) (x := x9) hfit k1 k2 g5 g6 m g hm hg (Nat.le_refl _) (by simp) aa;rw [hm, hg];clear hyield k1 k2 g6 h0 h1;have ⟨hg', hm', hfin', g5'⟩ := hyd4 hg hm hfin g5;clear g5 hfin hm hg;gi_wp2;exact hfin'.out _
 ·rintro D ys W hD rfl ⟨k1, k2, z, g5, g6⟩ hDK;have hz := g6 (qBW _);rw [List.length_finRange, Nat.sub_self, List.drop_zero, qA4] at hz;subst hz;have cR := qAF g5;have kbW := ((Below.trans hBW k1.1).block _ hkbl).trans kb10'.out;have hLe : Le w W := Below.trans hleW0 (k1.1.mono (by omega));clear e0 e1 e2;obtain ⟨e0, e1, e2, -⟩ := qAD kbW;have hbN : (N : Int) ≤ 4611686018427387904 := by omega
  clear hyield k1 h0 h1 g6 g5 hBW hleW0;have ⟨hDK', hLe', kbW'⟩ := hyd3 hDK hLe kbW;clear kbW hLe hDK;go_wp2;refine qAZ w.heap.size [{ target := .collected D, args := #[] }] _ ⟨⟨D, rfl, by omega, hDK'.out, by simp⟩, trivial⟩ fun w9 hb hkeep => ?_;refine ⟨_, results_tmp rfl _ _ _, Below.trans hLe'.out hb, .inl ⟨by rw [hE'.out], ?_⟩⟩;rw [hE'.out]
  rfl
 ·rintro D cc9 pre W _ _ h _;exact h.elim
theorem qFx (x : FracA) (r : Rat) (Bx : Nat) (va : Value) (w : World) (hx : FBox w Bx va x) (hr : x.rat? = some r) (N q0 m0 : Nat) (hN : qBM r = N) (hq0 : rnum (r + halfR) / (r + halfR).den = q0) (hm0 : rnum (r + halfR) % (r + halfR).den = m0) (hfit : N ≤ 4611686018427387904) (hsb : rneg (r + halfR) = true) (hm0p : m0 = 0) :
  Calls Tryz.prog 145 #[.pointer (some ⟨Bx, 0, none⟩)] w (qCZ x w) := by
 obtain ⟨A, c, A', c', rfl, kx, hxa⟩ := hx;obtain ⟨a0, a1, a2, a3⟩ := qA3 kx;have hsz0 := FracA.sz hr;obtain ⟨b, hb⟩ : ∃ b, r + halfR = b := ⟨_, rfl⟩;rw [hb] at hq0 hm0 hsb;have hbs : Rsz b 2001 := by rw [← hb]; exact qCS (n := 1000) (hsz0.up (by decide)) (halfR_sz.up (by decide))
 have hE : qAT x = (sg true N, 0) := by
  unfold qAT qBd;rw [hr];simp only [hN];rw [decide_eq_true hfit];simp only [if_true];unfold qEH;rw [hN, if_pos hfit, hb, hsb]
 have hNE : q0 = N := by
  rw [← hN, ← hq0];unfold qBM;rw [hb, hsb];rw [hm0, if_neg (by rw [hm0p]; simp)]; rfl
 obtain rfl : N = q0 := hNE.symm;have ⟨kx', hxa', hr', hN', hsz0', hb', hbs', hE'⟩ := hyd8 kx hxa hr hN hsz0 hb hbs hE;have ⟨hNE', hsb', hq0', hm0'⟩ := hyd4 hNE hsb hq0 hm0;clear hm0 hq0 hsb hNE hE hbs hb hsz0 hN hr hxa kx;refine (callsIn_wide (n := 5)).1 ?_;refine callsIn_of_wp_marks Tryz.func145 rfl trivial ?_ rfl;simp only [Tryz.ntmps145, List.size_toArray, List.length_cons, List.length_nil, Nat.reduceAdd, Nat.reduceSub, Array.replicate_succ, Array.replicate_zero, List.push_toArray, List.append_toArray, List.nil_append, List.cons_append];refine wpIn_wide.2 ?_;go_wp2_with (fail);go_at_call 137;refine (qBq (fun _ => True) x r _ _ (Up.any _) hxa'.out hr'.out).mono ?_;rintro e W1 ⟨v1, rfl, hle1, hr1⟩;have hr10 := hr1;obtain ⟨A1, c1, A2, c2, rfl, -, -⟩ := hr1.form;obtain ⟨W2, hW2, hsz2, hle2, -, -⟩ := qA6 W1 (.cells #[.int .u32 1] 196) (.cells #[.int .u32 2] 196);have hhalf := qDS W1 196;rw [hW2] at hhalf;have hr2 := hr10.le hle2;have ⟨hle1', hr1', hr10', hle2', hhalf', hr2'⟩ := hyd6 hle1 hr1 hr10 hle2 hhalf hr2;clear hr2 hhalf hle2 hr10 hr1 hle1;go_wp2_with (fail);clear hW2;go_at_call 142;refine (qBc (fun _ => True) r halfR _ _ W2 (Up.any _) hr2'.out hhalf'.out (hsz0'.out.up (by decide)) (halfR_sz.up (by decide))).mono ?_;rintro e W3 ⟨v3, rfl, hle3, hr3⟩;rw [hb'.out] at hr3;obtain ⟨Bn, dn, Bd, dd, rfl, hbn, hbd⟩ := hr3.form;rw [hsb'.out];obtain ⟨W4, hW4, hle4, kb⟩ := al1 W3 (.cells #[.bool true, .slice Bn (dg (rnum b)).length dn, .slice Bd (dg b.den).length dd] 131);obtain ⟨d0, d1, d2, -⟩ := qAD kb
 have hbn4 := hbn.le hle4;have hbd4 := hbd.le hle4;have hle04 := ((hle1'.out.trans hle2'.out).trans hle3).trans hle4;have ms1 := hbs'.out.1;have ms2 := hbs'.out.2;have hd0 := Nat.ne_of_gt (qAc b);have hover := qC6 (fun _ => True) (rnum b) b.den _ _ W4 (Up.any _) hbn4 hbd4 (by omega) (by omega) hd0;rw [hq0'.out, hm0'.out] at hover;have hlq : (dg N).length ≤ 2001 := by rw [← hq0'.out]; exact Nat.le_trans (qAK (Nat.div_le_self _ _)) ms1
 have ⟨hle3', hr3', hbn', hbd', hle4', kb', hbn4', hbd4'⟩ := hyd8 hle3 hr3 hbn hbd hle4 kb hbn4 hbd4;have ⟨hle04', ms1', ms2', hd0', hover', hlq'⟩ := hyd6 hle04 ms1 ms2 hd0 hover hlq;clear hlq hover hd0 ms2 ms1 hle04 hbd4 hbn4 kb hle4 hbd hbn hr3 hle3;go_wp2_with (fail);clear hW4;go_at_call 146;refine hover'.out.mono ?_;rintro e W5 ⟨vq, vm, rfl, hle5, hq5, hm5⟩;obtain ⟨Aq, cq, rfl⟩ := hq5.slice;obtain ⟨Am, cm, rfl⟩ := hm5.slice;have kb5 := (hle5.block _ (gsl kb'.out)).trans kb'.out;clear d0 d1 d2;obtain ⟨d0, d1, d2, -⟩ := qAD kb5;have hle05 := hle04'.out.trans hle5;have hl8 : (dg N).length ≤ 100000000 := by have := hlq'.out; omega
 have hq8 := hq5;have kb8 := kb5;have hle08 := hle05;have hl1 : (dg m0).length = 0 := by rw [hm0p, qAf]; rfl
 rw [hl1];clear hl1;have ⟨hle5', hq5', hm5', kb5', hle05', hq8', kb8', hle08'⟩ := hyd8 hle5 hq5 hm5 kb5 hle05 hq8 kb8 hle08;clear hle08 kb8 hq8 hle05 kb5 hm5 hq5 hle5
 -- the number is there: q8, in W5
 obtain ⟨F, hF⟩ : ∃ F : Nat, F = 4611686018427387904 := ⟨_, rfl⟩;have hFi : (F : Int) = 4611686018427387904 := by rw [hF]; rfl
 have hsm := qCG F W5 (by omega);rw [hFi] at hsm;have ⟨hsm', hF', hFi'⟩ := hyd3 hsm hF hFi;clear hFi hF hsm;go_wp2_with (fail);go_at_call 111;refine hsm'.out.mono ?_;rintro e W9 ⟨v9, rfl, hle9, hown9⟩;have hn9 : NumL (fun _ => True) .u32 W9 v9 F := ArrL.of_own hown9 (fun _ _ => trivial);obtain ⟨A9, c9, rfl⟩ := hn9.slice;have hq9 := hq8'.out.le hle9;have hcmp := qBS (fun _ => True) N F _ _ W9 hq9 hn9 (by omega) (Nat.le_trans (qBp (by have := hF'.out; omega)) (by decide));have kb9 := (Below.block hle9 _ (gsl kb8'.out)).trans kb8'.out;have hle09 := hle08'.out.trans hle9;have ⟨hle9', hown9', hn9', hq9', hcmp', kb9', hle09'⟩ := hyd7 hle9 hown9 hn9 hq9 hcmp kb9 hle09;clear hle09 kb9 hcmp hq9 hn9 hown9 hle9;go_wp2_with (fail);go_at_call 148;refine hcmp'.out.mono ?_;rintro e W10 ⟨cc, rfl, hle10, hc1, hc2⟩;have kb10 := (Below.block hle10 _ (gsl kb9'.out)).trans kb9'.out;have hle010 := hle09'.out.trans hle10;have hq10 := hq9'.out.le hle10;obtain ⟨e0, e1, e2, -⟩ := qAD kb10
 have hcd : cc ≤ 0 ↔ N ≤ 4611686018427387904 := by
  have hF := hF'.out;constructor
  ·intro h
   rcases Int.lt_or_eq_of_le h with h | h
   ·have := hc1.1 h; omega
   ·have := hc2.1 h; omega
  ·intro h
   rcases Nat.lt_or_eq_of_le h with h | h
   ·have := hc1.2 (by omega); omega
   ·have := hc2.2 (by omega); omega
 have hcn : cc ≤ 0 := hcd.2 hfit;have ⟨hle10', hc1', hc2', kb10', hle010', hq10', hcd'⟩ := hyd7 hle10 hc1 hc2 kb10 hle010 hq10 hcd;clear hcd hq10 hle010 kb10 hc2 hc1 hle10;go_wp2_with (fail);go_at_call 84;refine (qBF _ _).mono ?_;rintro e W11 ⟨rfl, rfl⟩;go_wp2_with (first | (go_at_call 149; ((with_reducible refine (qCP _ _ _ _).mono ?_); rintro e w' ⟨rfl, rfl⟩)));obtain ⟨W0, hW0, hsz, hBW, h0, h1⟩ := qA6 W10 (.cells #[.int .i64 0] 3) (.cells #[.slice Aq (dg N).length cq] 129);rw [hW0];clear hW0;have hyield := qBb (dg N) _ W10 W0 (W10.heap.size + 1) W10.heap.size hq10'.out.arr (by omega) (by omega) (Nat.le_refl _) hBW (qAF h1);have hkbl := (gsl kb10'.out);have hleW0 := hle010'.out.trans hBW;have hwz := hle010'.out.size;refine (wpIn_wide (n := 5)).1 ?_;refine wpIn_rangeFunc_ownG rfl (by omega) (gf := 187) (lb := #[.pointer (some ⟨W10.heap.size + 1, 0, none⟩)]) rfl trivial (enters_of Tryz.func187 (by kernel_rfl) rfl)
  hyield Kept.trans (Kept.put (by omega) (by simp; omega)) (Below.refl _ _) (fun _ => rfl)
  (NearI W0 W10.heap.size W10.heap.size 3 [W10.heap.size + 1] N) (fun _ _ _ => False) (NearI.from _ _ _ _ _ _ _ (Nat.le_refl _) (by omega) (by omega) (by simp; omega)) (fun _ _ _ _ _ hs _ _ => hs)
  ⟨Kept.refl _ _ _, Nat.le_refl _, 0, h0, fun _ => by simp [nv]⟩ ?_ ?_ ?_ ?_ ?_
 rotate_left
 ·intro l x9 W K hK;dsimp only [qDs];gi_wp2;exact hK
 ·rintro l pre x9 W ⟨k1, k2, z, g5, g6⟩ hlen2;have hx9 := x9.2;obtain ⟨m, hm⟩ : ∃ m, (dg N).length - 1 - x9.1 = m := ⟨_, rfl⟩;obtain ⟨g, hg⟩ : ∃ g, (dg N)[m]?.getD 0 = g := ⟨_, rfl⟩
  have hgB : g < 1000000000 := by
   rw [← hg, ← qAS, ← List.getD_eq_getElem?_getD];exact qAt (qAW N) m
  have cR := qAF g5;have fR := fz0 g5 0;have hfin := fun aa => NearI.step (N0 := W0.heap.size) (x := x9) hfit k1 k2 g5 g6 m g hm hg (Nat.le_refl _) (by simp) aa;rw [hm, hg];clear hyield k1 k2 g6 h0 h1;have ⟨hg', hm', hfin', g5'⟩ := hyd4 hg hm hfin g5;clear g5 hfin hm hg;gi_wp2;exact hfin'.out _
 ·rintro D ys W hD rfl ⟨k1, k2, z, g5, g6⟩ hDK;have hz := g6 (qBW _);rw [List.length_finRange, Nat.sub_self, List.drop_zero, qA4] at hz;subst hz;have cR := qAF g5;have kbW := ((Below.trans hBW k1.1).block _ hkbl).trans kb10'.out;have hLe : Le w W := Below.trans hleW0 (k1.1.mono (by omega));clear e0 e1 e2;obtain ⟨e0, e1, e2, -⟩ := qAD kbW;have hbN : (N : Int) ≤ 4611686018427387904 := by omega
  clear hyield k1 h0 h1 g6 g5 hBW hleW0;have ⟨hDK', hLe', kbW'⟩ := hyd3 hDK hLe kbW;clear kbW hLe hDK;go_wp2;refine qAZ w.heap.size [{ target := .collected D, args := #[] }] _ ⟨⟨D, rfl, by omega, hDK'.out, by simp⟩, trivial⟩ fun w9 hb hkeep => ?_;refine ⟨_, results_tmp rfl _ _ _, Below.trans hLe'.out hb, .inl ⟨by rw [hE'.out], ?_⟩⟩;rw [hE'.out]
  rfl
 ·rintro D cc9 pre W _ _ h _;exact h.elim
end Go.Proofs.YtabfaobakmjiaaaGreat
namespace Go.Proofs.YtabfaobakmjiaaaGreat
set_option maxRecDepth 100000
set_option maxHeartbeats 1000000
open Go.RowKit Go.Shelf
set_option linter.unusedVariables false
set_option linter.unusedSimpArgs false
theorem qMG (z : Int) (hz0 : -9223372036854775808 ≤ z) (hz1 : z ≤ 9223372036854775807) : Rsz (z : Rat) 3 :=
 ⟨qBp (N := z.natAbs) (by omega), by rw [show (z : Rat).den = 1 from rfl, qCg]; simp⟩
theorem qG4 (L : Nat → Prop) (z : Int) (w : World) (hL : Up w L) (hz0 : -9223372036854775808 ≤ z) (hz1 : z ≤ 9223372036854775807) :
  Calls Tryz.prog 22 #[.int .i64 z] w fun e w' => ∃ v, e = .returned v ∧ Le w w' ∧ FracL L w' v (z : Rat) := by
 have hsz := (qMG z hz0 hz1).up (show 3 ≤ 40 by decide);have ⟨hL', hsz'⟩ := hyd2 hL hsz;clear hsz hL;go_enter Tryz.func22, Tryz.ntmps22;go_wp2_with (fail);go_at_call 56;refine (qD1 (fun _ => True) z _ (Up.any _) hz0 hz1).mono ?_;rintro e W1 ⟨v1, rfl, hle1, hr⟩;obtain ⟨hle2, hbx⟩ := qBZ hle1;have hr0 := hr;obtain ⟨A1, c1, A2, c2, rfl, -, -⟩ := hr.form;have hU1 := hL'.out.le hle2;have hout := qFB L (fun _ => True) (z : Rat) _ W1 hU1 hr0 hsz'.out;have ⟨hle1', hr', hr0', hbx', hU1', hle2', hout'⟩ := hyd7 hle1 hr hr0 hbx hU1 hle2 hout;clear hout hle2 hU1 hbx hr0 hr hle1;go_wp2_with (fail);go_at_call 55;refine hout'.out.mono ?_;rintro e W2 ⟨v2, rfl, hle3, hv⟩;have hv0 := hv;obtain ⟨A3, c3, A4, c4, rfl, -, -⟩ := hv;have hbx3 := (hle3.block _ (gsl hbx'.out)).trans hbx'.out;have hle9 := fun u0 u1 u2 u3 => qET (u0 := u0) (u1 := u1) (u2 := u2) (u3 := u3) (hle2'.out.trans hle3) (Nat.le_refl _);have hb9 := fun u0 u1 u2 u3 => qA3 (qD3 (u0 := u0) (u1 := u1) (u2 := u2) (u3 := u3) hbx3);have hfin := fun u0 u1 u2 u3 => FracL.box4 (u0 := u0) (u1 := u1) (u2 := u2) (u3 := u3) hv0 hbx3;obtain ⟨z0, z1, z2, z3⟩ := qA3 hbx3;have ⟨g0, g1, g2, g3⟩ := frz4 hbx3;obtain ⟨sr, hsr⟩ : ∃ sr, rneg (z : Rat) = sr := ⟨_, rfl⟩;obtain ⟨l1, hl1⟩ : ∃ l1, (dg (rnum (z : Rat))).length = l1 := ⟨_, rfl⟩;obtain ⟨l2, hl2⟩ : ∃ l2, (dg (z : Rat).den).length = l2 := ⟨_, rfl⟩;rw [hsr, hl1, hl2] at hfin ⊢;have ⟨hle3', hv0', hbx3', hle9', hb9', hfin', hsr', hl1'⟩ := hyd8 hle3 hv0 hbx3 hle9 hb9 hfin hsr hl1;have hl2' := hyd1 hl2
 clear hl2 hl1 hsr hfin hb9 hle9 hbx3 hv0 hle3;go_wp2;obtain ⟨d0, d1, d2, d3⟩ := hb9'.out (.bool sr) (.slice A3 l1 c3) (.bool false) (.slice A4 l2 c4);exact bodyPost_ret (v := .agg #[.bool sr, .slice A3 l1 c3, .bool false, .slice A4 l2 c4]) (by simp [results, Tryz.results22, go_sem, d0, d1, d2, d3]) rfl ⟨_, rfl, hle9'.out _ _ _ _, hfin'.out _ _ _ _⟩
theorem qJM (x : FracA) (Bx : Nat) (va : Value) (w : World) (hx : FBox w Bx va x) : Calls Tryz.prog 145 #[.pointer (some ⟨Bx, 0, none⟩)] w (qCZ x w) := by
 cases hr : x.rat? with
 | none => exact qFr x Bx va w hx hr
 | some r =>
  by_cases hf : qBM r ≤ 4611686018427387904
  ·by_cases hs : rneg (r + halfR) = true
   ·by_cases hm : rnum (r + halfR) % (r + halfR).den = 0
    ·exact qFx x r Bx va w hx hr _ _ _ rfl rfl rfl hf hs hm
    ·exact qFv x r Bx va w hx hr _ _ _ rfl rfl rfl hf hs hm
   ·exact qFw x r Bx va w hx hr _ _ _ rfl rfl rfl hf (by simpa using hs)
  ·have hf := Nat.lt_of_not_le hf
   by_cases hs : rneg (r + halfR) = true
   ·by_cases hm : rnum (r + halfR) % (r + halfR).den = 0
    ·exact qFu x r Bx va w hx hr _ _ _ rfl rfl rfl hf hs hm
    ·exact qFs x r Bx va w hx hr _ _ _ rfl rfl rfl hf hs hm
   ·exact qFt x r Bx va w hx hr _ _ _ rfl rfl rfl hf (by simpa using hs)
theorem qKk {x : FracA} (h : (qAT x).2 ≠ 0) : (qAT x).1 = 0 := by
 unfold qAT at *
 split at h
 ·split at h
  ·exact absurd rfl h
  ·rename_i h2; rw [if_neg h2]
 ·rfl
theorem qG5 (x : FracA) (v : Value) (w : World) (h : IsFracA (fun _ => True) w v x) :
  Calls Tryz.prog 91 #[v] w fun e w' => e = .returned (.tuple #[.int .i64 (qAT x).1, .int .i64 (qAT x).2]) ∧ Le w w' := by
 have hmf : ∀ (fn : Fn) (first cap : Array Value) (w : World), (Instr.makeFunc fn first cap).run Tryz.prog w = .ok (.func fn first cap) w := fun _ _ _ _ => rfl;have hx0 := h;obtain ⟨A, c, A', c', rfl, p1, p2⟩ := h;obtain ⟨W0, hW0, hle, k0⟩ := al1 w (.cells #[.bool x.sn, .slice A x.gn.length c, .bool x.sd, .slice A' x.gd.length c'] 76);have hlt := (gsl k0);have hf := fun W (hW : Le W0 W) => qJM x w.heap.size _ W (FBox.mk hx0 (hle.trans hW) ((hW.block _ hlt).trans k0))
 have hrun : Calls Tryz.prog 144 #[.func (.func 145) #[] #[.pointer (some ⟨w.heap.size, 0, none⟩)]] W0 fun e w' => e = .returned (.tuple #[.int .i64 (qAT x).1, .int .i64 (qAT x).2]) ∧ Le W0 w' := by
  by_cases h0 : (qAT x).2 = 0
  ·rw [h0];refine (qHo _ _ (qAT x).1 W0 qEW fun W hW => (hf W hW).mono fun e W' h => ?_).mono fun e w' h => h;obtain ⟨hle2, ⟨-, rfl⟩ | ⟨hb2, -⟩⟩ := h
   ·exact ⟨rfl, hle2⟩
   ·exact absurd h0 hb2
  ·rw [qKk h0];refine (qGw _ _ (qAT x).2 W0 qEW fun W hW => (hf W hW).mono fun e W' h => ?_).mono fun e w' h => h;obtain ⟨hle2, ⟨hb2, -⟩ | ⟨-, rfl⟩⟩ := h
   ·exact absurd hb2 h0
   ·exact ⟨rfl, hle2⟩
 obtain ⟨n1, hn1⟩ : ∃ n1, (qAT x).1 = n1 := ⟨_, rfl⟩;obtain ⟨n2, hn2⟩ : ∃ n2, (qAT x).2 = n2 := ⟨_, rfl⟩;rw [hn1, hn2] at hrun ⊢;have ⟨hx0', p1', p2', hle', k0', hrun', hn1', hn2'⟩ := hyd8 hx0 p1 p2 hle k0 hrun hn1 hn2;have hf' := hyd1 hf;clear hf hn2 hn1 hrun k0 hle p2 p1 hx0;go_enter Tryz.func91, Tryz.ntmps91;go_wp2_with (fail);clear hW0;go_at_call 144;refine hrun'.out.mono ?_;rintro e W1 ⟨rfl, hle1⟩;have hle2 := hle'.out.trans hle1;have ⟨hle1', hle2'⟩ := hyd2 hle1 hle2;clear hle2 hle1;go_wp2;go_ret2;exact ⟨rfl, hle2'.out⟩
end Go.Proofs.YtabfaobakmjiaaaGreat
