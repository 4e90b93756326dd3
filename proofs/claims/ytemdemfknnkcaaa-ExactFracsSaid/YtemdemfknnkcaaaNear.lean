/- exact: Nearest's closure. -/
import Derived.Test.YtemdemfknnkcaaaOper2
namespace Go.Proofs.Ytemdemfknnkcaaa
open Go.RowKit Go.Shelf
set_option linter.unusedVariables false
set_option linter.unusedSimpArgs false
attribute [local go_sem] Oper.semAt_some
def NearPost (x : FracA) (w : World) (e : Ending) (w' : World) : Prop := Le w w' ∧ (((nearE x).2 = 0 ∧ e = .returned (.int .i64 (nearE x).1)) ∨ ((nearE x).2 ≠ 0 ∧ e = .panicked (flt (nearE x).2)))
theorem half_lit (W : World) (t : TypeId) : RatL (fun _ => True) .u32 ((W.alloc (.cells #[.int .u32 1] t)).alloc (.cells #[.int .u32 2] t)) (.agg #[.bool false, .slice (some ⟨W.heap.size, 0, none⟩) 1 1, .slice (some ⟨W.heap.size + 1, 0, none⟩) 1 1]) halfR := by
  obtain ⟨h1, h2, h3⟩ := halfR_parts
  refine ⟨_, _, by rw [h1], ?_, ?_⟩
  · rw [h2]
    exact (numL_newg (L := fun _ => True) (k := .u32) (V := W) (g := 1) (fun _ _ => trivial) (by omega) dg_one_lt t).le (le_alloc _ _)
  · rw [h3]
    have h := numL_newg (L := fun _ => True) (k := .u32) (V := W.alloc (.cells #[.int .u32 1] t)) (g := 2) (fun _ _ => trivial) (by omega) (by rw [B9_eq]; omega) t
    rw [World.size_alloc] at h
    exact h
/-- Between two rounds: the number so far, in R. -/
structure NearI (W0 : World) (n₀ R : Nat) (t : TypeId) (Bs : List Nat) (N : Nat) (pre : List (Fin (dg N).length)) (W : World) : Prop where
  kept : Kept n₀ Bs W0 W
  size : W0.heap.size ≤ W.heap.size
  ex : ∃ z : Int, W.heap[R]? = some (.cells #[.int .i64 z] t) ∧ (pre <+: List.finRange (dg N).length → z = (nv ((dg N).drop ((dg N).length - pre.length)) : Int))
theorem NearI.from (W0 : World) (n₀ R : Nat) (t : TypeId) (Bs : List Nat) (N N0 : Nat) (h : W0.heap.size ≤ N0) (hn : n₀ ≤ W0.heap.size) (hR : R < N0) (hBs : ∀ B ∈ Bs, B < W0.heap.size) : OwnFrom N0 (NearI W0 n₀ R t Bs N) := by
  rintro s X Y row ⟨h1, hs, z, h6, h7⟩ hg hrow
  refine ⟨h1.trans ⟨(Below.refl _ _).grown hg (by omega) fun k e => by have := (hrow k e).1; omega, fun B hB => hg.block B (by have := hBs B hB; omega) (fun e => by have := (hrow _ e.symm).1; have := hBs B hB; omega)⟩, Nat.le_trans hs hg.size, z, ?_, h7⟩
  exact (hg.block R (Array.getElem?_eq_some_iff.1 h6).1 (fun e => by have := (hrow _ e.symm).1; omega)).trans h6
theorem nv_drop_le (l : List Nat) (k : Nat) (h : k ≤ l.length) : nv (l.drop k) ≤ nv l := by
  have e := nv_take_drop l k h
  have : 0 < B9 ^ k := pow_pos' k
  have := Nat.le_mul_of_pos_left (nv (l.drop k)) this
  omega
theorem near_step {N m g : Nat} {z : Int} (hN : N ≤ 4611686018427387904) (hm : m < (dg N).length) (hg : (dg N)[m] = g) (hz : z = (nv ((dg N).drop (m + 1)) : Int)) : wrap64 (wrap64 (z * 1000000000) + (g : Int)) = (nv ((dg N).drop m) : Int) := by
  have e := nv_drop (dg N) m hm
  have hle := nv_drop_le (dg N) m (by omega)
  rw [nv_dg] at hle
  rw [hg, B9_eq] at e
  subst hz
  have h1 : wrap64 ((nv ((dg N).drop (m + 1)) : Int) * 1000000000) = (nv ((dg N).drop (m + 1)) : Int) * 1000000000 := IntWalk.wrap64_in _ (by omega)
  rw [h1]
  have h2 : (nv ((dg N).drop (m + 1)) : Int) * 1000000000 + (g : Int) = (nv ((dg N).drop m) : Int) := by omega
  rw [h2]
  exact IntWalk.wrap64_in _ (by omega)
theorem NearI.step {W0 : World} {n₀ R : Nat} {t : TypeId} {Bs : List Nat} {N : Nat} {pre : List (Fin (dg N).length)} {x : Fin (dg N).length} {W : World} {z : Int} (hN : N ≤ 4611686018427387904)
    (k1 : Kept n₀ Bs W0 W) (k2 : W0.heap.size ≤ W.heap.size) (h5 : W.heap[R]? = some (.cells #[.int .i64 z] t)) (h6 : pre <+: List.finRange (dg N).length → z = (nv ((dg N).drop ((dg N).length - pre.length)) : Int))
    (m g : Nat) (hm : (dg N).length - 1 - x.1 = m) (hg : (dg N)[m]?.getD 0 = g) (hR : n₀ ≤ R) (hBs : ∀ B ∈ Bs, B ≠ R) (N0 : Nat) (aa : Act) :
    ownPostG N0 (Kept n₀ Bs) (NearI W0 n₀ R t Bs N) (fun _ _ _ => False) (pre ++ [x]) W .normal aa (W.setCell ⟨R, 0, none⟩ (.int .i64 (wrap64 (wrap64 (z * 1000000000) + (g : Int))))) := by
  have hx := x.2
  have hml : m < (dg N).length := by omega
  have hgd : (dg N)[m] = g := by rw [← hg]; simp [hml]
  have hk : Kept n₀ Bs W (W.setCell ⟨R, 0, none⟩ (.int .i64 (wrap64 (wrap64 (z * 1000000000) + (g : Int))))) := ⟨(Below.refl _ W).setCell (p := ⟨R, 0, none⟩) hR _, fun B hB => Below.heap_setCell _ _ _ _ (hBs B hB)⟩
  refine ⟨(KeepsOthers.setCell _ _ _).from _, hk, k1.trans hk, by simpa [World.setCell] using k2, _, heap_put0 h5, fun hp => ?_⟩
  obtain ⟨p1, p2⟩ := prefix_next hp
  have h9 := h6 p1
  rw [show (dg N).length - pre.length = m + 1 by omega] at h9
  rw [List.length_append, List.length_singleton, show (dg N).length - (pre.length + 1) = m by omega]
  exact near_step hN hml hgd h9
theorem plain_Nearest1 : Plain Try.prog 40 := fun _ _ => by kernel_rfl
theorem pf_Nearest1_none (x : FracA) (Bx : Nat) (va : Value) (w : World) (hx : FBox w Bx va x) (hr : x.rat? = none) :
    Calls Try.prog 40 #[.pointer (some ⟨Bx, 0, none⟩)] w (NearPost x w) := by
  obtain ⟨A, c, A', c', rfl, kx, hxa⟩ := hx
  obtain ⟨a0, a1, a2, a3⟩ := cells4 kx
  have hE : nearE x = (0, 10) := by unfold nearE; rw [hr]
  have kx' := Lib.hid kx
  have hxa' := Lib.hid hxa
  have hr' := Lib.hid hr
  have hE' := Lib.hid hE
  clear hE hr hxa kx
  go_enter Try.func40, Try.ntmps40
  go_wp2_with (fail)
  go_at_call 35
  refine (pf_in_none (fun _ => True) x _ w (Up.any _) hxa'.out hr'.out).mono ?_
  rintro e W1 ⟨rfl, hle1⟩
  go_wp2_with (fail)
  exact ⟨rfl, hle1, .inr ⟨by rw [hE'.out]; decide, by rw [hE'.out]⟩⟩
set_option maxRecDepth 100000 in
set_option maxHeartbeats 1000000 in
theorem pf_Nearest1_bigA (x : FracA) (r : Rat) (Bx : Nat) (va : Value) (w : World) (hx : FBox w Bx va x) (hr : x.rat? = some r) (N q0 m0 : Nat) (hN : nearQ r = N) (hq0 : rnum (r + halfR) / (r + halfR).den = q0) (hm0 : rnum (r + halfR) % (r + halfR).den = m0) (hfit : 4611686018427387904 < N) (hsb : rneg (r + halfR) = true) (hm0p : m0 ≠ 0) :
    Calls Try.prog 40 #[.pointer (some ⟨Bx, 0, none⟩)] w (NearPost x w) := by
  obtain ⟨A, c, A', c', rfl, kx, hxa⟩ := hx
  obtain ⟨a0, a1, a2, a3⟩ := cells4 kx
  have hsz0 := FracA.sz hr
  obtain ⟨b, hb⟩ : ∃ b, r + halfR = b := ⟨_, rfl⟩
  rw [hb] at hq0 hm0 hsb
  have hbs : Rsz b 2001 := by rw [← hb]; exact rsz_add (n := 1000) (hsz0.up (by decide)) (halfR_sz.up (by decide))
  have hE : nearE x = (0, 12) := by
    unfold nearE nearFits
    rw [hr]
    simp only [hN]
    rw [decide_eq_false (show ¬ N ≤ 4611686018427387904 by omega)]
    rfl
  have hNE : q0 + 1 = N := by
    rw [← hN, ← hq0]
    unfold nearQ
    rw [hb, hsb]
    rw [hm0]
    rw [if_pos ⟨rfl, hm0p⟩]
  have kx' := Lib.hid kx
  have hxa' := Lib.hid hxa
  have hr' := Lib.hid hr
  have hN' := Lib.hid hN
  have hsz0' := Lib.hid hsz0
  have hb' := Lib.hid hb
  have hbs' := Lib.hid hbs
  have hE' := Lib.hid hE
  have hNE' := Lib.hid hNE
  have hsb' := Lib.hid hsb
  have hq0' := Lib.hid hq0
  have hm0' := Lib.hid hm0
  clear hm0 hq0 hsb hNE hE hbs hb hsz0 hN hr hxa kx
  go_enter Try.func40, Try.ntmps40
  go_wp2_with (fail)
  go_at_call 35
  refine (pf_in_some (fun _ => True) x r _ _ (Up.any _) hxa'.out hr'.out).mono ?_
  rintro e W1 ⟨v1, rfl, hle1, hr1⟩
  have hr10 := hr1
  obtain ⟨A1, c1, A2, c2, rfl, -, -⟩ := hr1.form
  obtain ⟨W2, hW2, hsz2, hle2, -, -⟩ := new2_le W1 (.cells #[.int .u32 1] 69) (.cells #[.int .u32 2] 69)
  have hhalf := half_lit W1 69
  rw [hW2] at hhalf
  have hr2 := hr10.le hle2
  have hle1' := Lib.hid hle1
  have hr1' := Lib.hid hr1
  have hr10' := Lib.hid hr10
  have hle2' := Lib.hid hle2
  have hhalf' := Lib.hid hhalf
  have hr2' := Lib.hid hr2
  clear hr2 hhalf hle2 hr10 hr1 hle1
  go_wp2_with (fail)
  clear hW2
  go_at_call 41
  refine (pf_rplus (fun _ => True) r halfR _ _ W2 (Up.any _) hr2'.out hhalf'.out (hsz0'.out.up (by decide)) (halfR_sz.up (by decide))).mono ?_
  rintro e W3 ⟨v3, rfl, hle3, hr3⟩
  rw [hb'.out] at hr3
  obtain ⟨Bn, dn, Bd, dd, rfl, hbn, hbd⟩ := hr3.form
  rw [hsb'.out]
  obtain ⟨W4, hW4, hle4, kb⟩ : ∃ W4, W3.alloc (.cells #[.bool true, .slice Bn (dg (rnum b)).length dn, .slice Bd (dg b.den).length dd] 59) = W4 ∧ Le W3 W4 ∧ W4.heap[W3.heap.size]? = some (.cells #[.bool true, .slice Bn (dg (rnum b)).length dn, .slice Bd (dg b.den).length dd] 59) := ⟨_, rfl, le_alloc _ _, by unfold World.alloc; exact Array.getElem?_push_size⟩
  obtain ⟨d0, d1, d2, -⟩ := cells3 kb
  have hbn4 := hbn.le hle4
  have hbd4 := hbd.le hle4
  have hle04 := ((hle1'.out.trans hle2'.out).trans hle3).trans hle4
  have ms1 := hbs'.out.1
  have ms2 := hbs'.out.2
  have hd0 := Nat.ne_of_gt (rden_pos b)
  have hover := pf_over (fun _ => True) (rnum b) b.den _ _ W4 (Up.any _) hbn4 hbd4 (by omega) (by omega) hd0
  rw [hq0'.out, hm0'.out] at hover
  have hlq : (dg q0).length ≤ 2001 := by rw [← hq0'.out]; exact Nat.le_trans (dg_length_mono (Nat.div_le_self _ _)) ms1
  have hle3' := Lib.hid hle3
  have hr3' := Lib.hid hr3
  have hbn' := Lib.hid hbn
  have hbd' := Lib.hid hbd
  have hle4' := Lib.hid hle4
  have kb' := Lib.hid kb
  have hbn4' := Lib.hid hbn4
  have hbd4' := Lib.hid hbd4
  have hle04' := Lib.hid hle04
  have ms1' := Lib.hid ms1
  have ms2' := Lib.hid ms2
  have hd0' := Lib.hid hd0
  have hover' := Lib.hid hover
  have hlq' := Lib.hid hlq
  clear hlq hover hd0 ms2 ms1 hle04 hbd4 hbn4 kb hle4 hbd hbn hr3 hle3
  go_wp2_with (fail)
  clear hW4
  go_at_call 42
  refine hover'.out.mono ?_
  rintro e W5 ⟨vq, vm, rfl, hle5, hq5, hm5⟩
  obtain ⟨Aq, cq, rfl⟩ := hq5.slice
  obtain ⟨Am, cm, rfl⟩ := hm5.slice
  have kb5 := (hle5.block _ (Array.getElem?_eq_some_iff.1 kb'.out).1).trans kb'.out
  clear d0 d1 d2
  obtain ⟨d0, d1, d2, -⟩ := cells3 kb5
  have hle05 := hle04'.out.trans hle5
  have hl1 : 0 < ((dg m0).length : Int) := by have := dg_length_pos.2 hm0p; omega
  have hl2 : 0 < (dg m0).length := dg_length_pos.2 hm0p
  have hone := numL_newg (L := fun _ => True) (k := .u32) (V := W5) (g := 1) (fun _ _ => trivial) (by omega) dg_one_lt 69
  obtain ⟨W6, hW6, hle6⟩ : ∃ W6, W5.alloc (.cells #[.int .u32 1] 69) = W6 ∧ Le W5 W6 := ⟨_, rfl, le_alloc _ _⟩
  rw [show ((1 : Nat) : Int) = 1 from rfl, hW6] at hone
  have hpl := pf_plus (fun _ => True) q0 1 _ _ W6 (Up.any _) (hq5.le hle6) hone (by have := hlq'.out; omega) (by rw [dg_one]; simp)
  rw [hNE'.out] at hpl
  have hle5' := Lib.hid hle5
  have hq5' := Lib.hid hq5
  have hm5' := Lib.hid hm5
  have kb5' := Lib.hid kb5
  have hle05' := Lib.hid hle05
  have hone' := Lib.hid hone
  have hle6' := Lib.hid hle6
  have hpl' := Lib.hid hpl
  clear hpl hle6 hone hle05 kb5 hm5 hq5 hle5
  go_wp2_with (fail)
  clear hW6
  go_at_call 43
  refine hpl'.out.mono ?_
  rintro e W8 ⟨v8, rfl, hle7, hq8⟩
  obtain ⟨A8, c8, rfl⟩ := hq8.slice
  have kb8 := ((hle6'.out.trans hle7).block _ (Array.getElem?_eq_some_iff.1 kb5'.out).1).trans kb5'.out
  have hle08 := hle05'.out.trans (hle6'.out.trans hle7)
  have hl8 : (dg N).length ≤ 100000000 := by
    have h1 := dg_length_add q0 1
    rw [hNE'.out] at h1
    have h2 := hlq'.out
    have h3 : (dg 1).length = 1 := by rw [dg_one]; rfl
    omega
  clear d0 d1 d2 hl1 hl2
  have hle7' := Lib.hid hle7
  have hq8' := Lib.hid hq8
  have kb8' := Lib.hid kb8
  have hle08' := Lib.hid hle08
  clear hle08 kb8 hq8 hle7
  -- the number is there: q8, in W8
  obtain ⟨F, hF⟩ : ∃ F : Nat, F = 4611686018427387904 := ⟨_, rfl⟩
  have hFi : (F : Int) = 4611686018427387904 := by rw [hF]; rfl
  have hsm := pf_small F W8 (by omega)
  rw [hFi] at hsm
  have hsm' := Lib.hid hsm
  have hF' := Lib.hid hF
  have hFi' := Lib.hid hFi
  clear hFi hF hsm
  go_wp2_with (fail)
  go_at_call 46
  refine hsm'.out.mono ?_
  rintro e W9 ⟨v9, rfl, hle9, hown9⟩
  have hn9 : NumL (fun _ => True) .u32 W9 v9 F := ArrL.of_own hown9 (fun _ _ => trivial)
  obtain ⟨A9, c9, rfl⟩ := hn9.slice
  have hq9 := hq8'.out.le hle9
  have hcmp := pf_compare (fun _ => True) N F _ _ W9 hq9 hn9 (by omega) (Nat.le_trans (dg_u64 (by have := hF'.out; omega)) (by decide))
  have kb9 := (Below.block hle9 _ (Array.getElem?_eq_some_iff.1 kb8'.out).1).trans kb8'.out
  have hle09 := hle08'.out.trans hle9
  have hle9' := Lib.hid hle9
  have hown9' := Lib.hid hown9
  have hn9' := Lib.hid hn9
  have hq9' := Lib.hid hq9
  have hcmp' := Lib.hid hcmp
  have kb9' := Lib.hid kb9
  have hle09' := Lib.hid hle09
  clear hle09 kb9 hcmp hq9 hn9 hown9 hle9
  go_wp2_with (fail)
  go_at_call 45
  refine hcmp'.out.mono ?_
  rintro e W10 ⟨cc, rfl, hle10, hc1, hc2⟩
  have kb10 := (Below.block hle10 _ (Array.getElem?_eq_some_iff.1 kb9'.out).1).trans kb9'.out
  have hle010 := hle09'.out.trans hle10
  have hq10 := hq9'.out.le hle10
  obtain ⟨e0, e1, e2, -⟩ := cells3 kb10
  have hcd : cc ≤ 0 ↔ N ≤ 4611686018427387904 := by
    have hF := hF'.out
    constructor
    · intro h
      rcases Int.lt_or_eq_of_le h with h | h
      · have := hc1.1 h; omega
      · have := hc2.1 h; omega
    · intro h
      rcases Nat.lt_or_eq_of_le h with h | h
      · have := hc1.2 (by omega); omega
      · have := hc2.2 (by omega); omega
  have hcn : decide (cc ≤ 0) = false := decide_eq_false (fun h => absurd (hcd.1 h) (by omega))
  have hle10' := Lib.hid hle10
  have hc1' := Lib.hid hc1
  have hc2' := Lib.hid hc2
  have kb10' := Lib.hid kb10
  have hle010' := Lib.hid hle010
  have hq10' := Lib.hid hq10
  have hcd' := Lib.hid hcd
  clear hcd hq10 hle010 kb10 hc2 hc1 hle10
  go_wp2_with (fail)
  go_at_call 44
  refine (pf_must_no _ _).mono ?_
  rintro e W11 ⟨rfl, rfl⟩
  go_wp2_with (fail)
  exact ⟨rfl, hle010'.out, .inr ⟨by rw [hE'.out]; decide, by rw [hE'.out]⟩⟩
set_option maxRecDepth 100000 in
set_option maxHeartbeats 1000000 in
theorem pf_Nearest1_bigB (x : FracA) (r : Rat) (Bx : Nat) (va : Value) (w : World) (hx : FBox w Bx va x) (hr : x.rat? = some r) (N q0 m0 : Nat) (hN : nearQ r = N) (hq0 : rnum (r + halfR) / (r + halfR).den = q0) (hm0 : rnum (r + halfR) % (r + halfR).den = m0) (hfit : 4611686018427387904 < N) (hsb : rneg (r + halfR) = false) :
    Calls Try.prog 40 #[.pointer (some ⟨Bx, 0, none⟩)] w (NearPost x w) := by
  obtain ⟨A, c, A', c', rfl, kx, hxa⟩ := hx
  obtain ⟨a0, a1, a2, a3⟩ := cells4 kx
  have hsz0 := FracA.sz hr
  obtain ⟨b, hb⟩ : ∃ b, r + halfR = b := ⟨_, rfl⟩
  rw [hb] at hq0 hm0 hsb
  have hbs : Rsz b 2001 := by rw [← hb]; exact rsz_add (n := 1000) (hsz0.up (by decide)) (halfR_sz.up (by decide))
  have hE : nearE x = (0, 12) := by
    unfold nearE nearFits
    rw [hr]
    simp only [hN]
    rw [decide_eq_false (show ¬ N ≤ 4611686018427387904 by omega)]
    rfl
  have hNE : q0 = N := by
    rw [← hN, ← hq0]
    unfold nearQ
    rw [hb, hsb]
    rw [if_neg (by simp)]; rfl
  obtain rfl : N = q0 := hNE.symm
  have kx' := Lib.hid kx
  have hxa' := Lib.hid hxa
  have hr' := Lib.hid hr
  have hN' := Lib.hid hN
  have hsz0' := Lib.hid hsz0
  have hb' := Lib.hid hb
  have hbs' := Lib.hid hbs
  have hE' := Lib.hid hE
  have hNE' := Lib.hid hNE
  have hsb' := Lib.hid hsb
  have hq0' := Lib.hid hq0
  have hm0' := Lib.hid hm0
  clear hm0 hq0 hsb hNE hE hbs hb hsz0 hN hr hxa kx
  go_enter Try.func40, Try.ntmps40
  go_wp2_with (fail)
  go_at_call 35
  refine (pf_in_some (fun _ => True) x r _ _ (Up.any _) hxa'.out hr'.out).mono ?_
  rintro e W1 ⟨v1, rfl, hle1, hr1⟩
  have hr10 := hr1
  obtain ⟨A1, c1, A2, c2, rfl, -, -⟩ := hr1.form
  obtain ⟨W2, hW2, hsz2, hle2, -, -⟩ := new2_le W1 (.cells #[.int .u32 1] 69) (.cells #[.int .u32 2] 69)
  have hhalf := half_lit W1 69
  rw [hW2] at hhalf
  have hr2 := hr10.le hle2
  have hle1' := Lib.hid hle1
  have hr1' := Lib.hid hr1
  have hr10' := Lib.hid hr10
  have hle2' := Lib.hid hle2
  have hhalf' := Lib.hid hhalf
  have hr2' := Lib.hid hr2
  clear hr2 hhalf hle2 hr10 hr1 hle1
  go_wp2_with (fail)
  clear hW2
  go_at_call 41
  refine (pf_rplus (fun _ => True) r halfR _ _ W2 (Up.any _) hr2'.out hhalf'.out (hsz0'.out.up (by decide)) (halfR_sz.up (by decide))).mono ?_
  rintro e W3 ⟨v3, rfl, hle3, hr3⟩
  rw [hb'.out] at hr3
  obtain ⟨Bn, dn, Bd, dd, rfl, hbn, hbd⟩ := hr3.form
  rw [hsb'.out]
  obtain ⟨W4, hW4, hle4, kb⟩ : ∃ W4, W3.alloc (.cells #[.bool false, .slice Bn (dg (rnum b)).length dn, .slice Bd (dg b.den).length dd] 59) = W4 ∧ Le W3 W4 ∧ W4.heap[W3.heap.size]? = some (.cells #[.bool false, .slice Bn (dg (rnum b)).length dn, .slice Bd (dg b.den).length dd] 59) := ⟨_, rfl, le_alloc _ _, by unfold World.alloc; exact Array.getElem?_push_size⟩
  obtain ⟨d0, d1, d2, -⟩ := cells3 kb
  have hbn4 := hbn.le hle4
  have hbd4 := hbd.le hle4
  have hle04 := ((hle1'.out.trans hle2'.out).trans hle3).trans hle4
  have ms1 := hbs'.out.1
  have ms2 := hbs'.out.2
  have hd0 := Nat.ne_of_gt (rden_pos b)
  have hover := pf_over (fun _ => True) (rnum b) b.den _ _ W4 (Up.any _) hbn4 hbd4 (by omega) (by omega) hd0
  rw [hq0'.out, hm0'.out] at hover
  have hlq : (dg N).length ≤ 2001 := by rw [← hq0'.out]; exact Nat.le_trans (dg_length_mono (Nat.div_le_self _ _)) ms1
  have hle3' := Lib.hid hle3
  have hr3' := Lib.hid hr3
  have hbn' := Lib.hid hbn
  have hbd' := Lib.hid hbd
  have hle4' := Lib.hid hle4
  have kb' := Lib.hid kb
  have hbn4' := Lib.hid hbn4
  have hbd4' := Lib.hid hbd4
  have hle04' := Lib.hid hle04
  have ms1' := Lib.hid ms1
  have ms2' := Lib.hid ms2
  have hd0' := Lib.hid hd0
  have hover' := Lib.hid hover
  have hlq' := Lib.hid hlq
  clear hlq hover hd0 ms2 ms1 hle04 hbd4 hbn4 kb hle4 hbd hbn hr3 hle3
  go_wp2_with (fail)
  clear hW4
  go_at_call 42
  refine hover'.out.mono ?_
  rintro e W5 ⟨vq, vm, rfl, hle5, hq5, hm5⟩
  obtain ⟨Aq, cq, rfl⟩ := hq5.slice
  obtain ⟨Am, cm, rfl⟩ := hm5.slice
  have kb5 := (hle5.block _ (Array.getElem?_eq_some_iff.1 kb'.out).1).trans kb'.out
  clear d0 d1 d2
  obtain ⟨d0, d1, d2, -⟩ := cells3 kb5
  have hle05 := hle04'.out.trans hle5
  have hl8 : (dg N).length ≤ 100000000 := by have := hlq'.out; omega
  have hq8 := hq5
  have kb8 := kb5
  have hle08 := hle05
  have hle5' := Lib.hid hle5
  have hq5' := Lib.hid hq5
  have hm5' := Lib.hid hm5
  have kb5' := Lib.hid kb5
  have hle05' := Lib.hid hle05
  have hq8' := Lib.hid hq8
  have kb8' := Lib.hid kb8
  have hle08' := Lib.hid hle08
  clear hle08 kb8 hq8 hle05 kb5 hm5 hq5 hle5
  -- the number is there: q8, in W5
  obtain ⟨F, hF⟩ : ∃ F : Nat, F = 4611686018427387904 := ⟨_, rfl⟩
  have hFi : (F : Int) = 4611686018427387904 := by rw [hF]; rfl
  have hsm := pf_small F W5 (by omega)
  rw [hFi] at hsm
  have hsm' := Lib.hid hsm
  have hF' := Lib.hid hF
  have hFi' := Lib.hid hFi
  clear hFi hF hsm
  go_wp2_with (fail)
  go_at_call 46
  refine hsm'.out.mono ?_
  rintro e W9 ⟨v9, rfl, hle9, hown9⟩
  have hn9 : NumL (fun _ => True) .u32 W9 v9 F := ArrL.of_own hown9 (fun _ _ => trivial)
  obtain ⟨A9, c9, rfl⟩ := hn9.slice
  have hq9 := hq8'.out.le hle9
  have hcmp := pf_compare (fun _ => True) N F _ _ W9 hq9 hn9 (by omega) (Nat.le_trans (dg_u64 (by have := hF'.out; omega)) (by decide))
  have kb9 := (Below.block hle9 _ (Array.getElem?_eq_some_iff.1 kb8'.out).1).trans kb8'.out
  have hle09 := hle08'.out.trans hle9
  have hle9' := Lib.hid hle9
  have hown9' := Lib.hid hown9
  have hn9' := Lib.hid hn9
  have hq9' := Lib.hid hq9
  have hcmp' := Lib.hid hcmp
  have kb9' := Lib.hid kb9
  have hle09' := Lib.hid hle09
  clear hle09 kb9 hcmp hq9 hn9 hown9 hle9
  go_wp2_with (fail)
  go_at_call 45
  refine hcmp'.out.mono ?_
  rintro e W10 ⟨cc, rfl, hle10, hc1, hc2⟩
  have kb10 := (Below.block hle10 _ (Array.getElem?_eq_some_iff.1 kb9'.out).1).trans kb9'.out
  have hle010 := hle09'.out.trans hle10
  have hq10 := hq9'.out.le hle10
  obtain ⟨e0, e1, e2, -⟩ := cells3 kb10
  have hcd : cc ≤ 0 ↔ N ≤ 4611686018427387904 := by
    have hF := hF'.out
    constructor
    · intro h
      rcases Int.lt_or_eq_of_le h with h | h
      · have := hc1.1 h; omega
      · have := hc2.1 h; omega
    · intro h
      rcases Nat.lt_or_eq_of_le h with h | h
      · have := hc1.2 (by omega); omega
      · have := hc2.2 (by omega); omega
  have hcn : decide (cc ≤ 0) = false := decide_eq_false (fun h => absurd (hcd.1 h) (by omega))
  have hle10' := Lib.hid hle10
  have hc1' := Lib.hid hc1
  have hc2' := Lib.hid hc2
  have kb10' := Lib.hid kb10
  have hle010' := Lib.hid hle010
  have hq10' := Lib.hid hq10
  have hcd' := Lib.hid hcd
  clear hcd hq10 hle010 kb10 hc2 hc1 hle10
  go_wp2_with (fail)
  go_at_call 44
  refine (pf_must_no _ _).mono ?_
  rintro e W11 ⟨rfl, rfl⟩
  go_wp2_with (fail)
  exact ⟨rfl, hle010'.out, .inr ⟨by rw [hE'.out]; decide, by rw [hE'.out]⟩⟩
set_option maxRecDepth 100000 in
set_option maxHeartbeats 1000000 in
theorem pf_Nearest1_bigC (x : FracA) (r : Rat) (Bx : Nat) (va : Value) (w : World) (hx : FBox w Bx va x) (hr : x.rat? = some r) (N q0 m0 : Nat) (hN : nearQ r = N) (hq0 : rnum (r + halfR) / (r + halfR).den = q0) (hm0 : rnum (r + halfR) % (r + halfR).den = m0) (hfit : 4611686018427387904 < N) (hsb : rneg (r + halfR) = true) (hm0p : m0 = 0) :
    Calls Try.prog 40 #[.pointer (some ⟨Bx, 0, none⟩)] w (NearPost x w) := by
  obtain ⟨A, c, A', c', rfl, kx, hxa⟩ := hx
  obtain ⟨a0, a1, a2, a3⟩ := cells4 kx
  have hsz0 := FracA.sz hr
  obtain ⟨b, hb⟩ : ∃ b, r + halfR = b := ⟨_, rfl⟩
  rw [hb] at hq0 hm0 hsb
  have hbs : Rsz b 2001 := by rw [← hb]; exact rsz_add (n := 1000) (hsz0.up (by decide)) (halfR_sz.up (by decide))
  have hE : nearE x = (0, 12) := by
    unfold nearE nearFits
    rw [hr]
    simp only [hN]
    rw [decide_eq_false (show ¬ N ≤ 4611686018427387904 by omega)]
    rfl
  have hNE : q0 = N := by
    rw [← hN, ← hq0]
    unfold nearQ
    rw [hb, hsb]
    rw [hm0, if_neg (by rw [hm0p]; simp)]; rfl
  obtain rfl : N = q0 := hNE.symm
  have kx' := Lib.hid kx
  have hxa' := Lib.hid hxa
  have hr' := Lib.hid hr
  have hN' := Lib.hid hN
  have hsz0' := Lib.hid hsz0
  have hb' := Lib.hid hb
  have hbs' := Lib.hid hbs
  have hE' := Lib.hid hE
  have hNE' := Lib.hid hNE
  have hsb' := Lib.hid hsb
  have hq0' := Lib.hid hq0
  have hm0' := Lib.hid hm0
  clear hm0 hq0 hsb hNE hE hbs hb hsz0 hN hr hxa kx
  go_enter Try.func40, Try.ntmps40
  go_wp2_with (fail)
  go_at_call 35
  refine (pf_in_some (fun _ => True) x r _ _ (Up.any _) hxa'.out hr'.out).mono ?_
  rintro e W1 ⟨v1, rfl, hle1, hr1⟩
  have hr10 := hr1
  obtain ⟨A1, c1, A2, c2, rfl, -, -⟩ := hr1.form
  obtain ⟨W2, hW2, hsz2, hle2, -, -⟩ := new2_le W1 (.cells #[.int .u32 1] 69) (.cells #[.int .u32 2] 69)
  have hhalf := half_lit W1 69
  rw [hW2] at hhalf
  have hr2 := hr10.le hle2
  have hle1' := Lib.hid hle1
  have hr1' := Lib.hid hr1
  have hr10' := Lib.hid hr10
  have hle2' := Lib.hid hle2
  have hhalf' := Lib.hid hhalf
  have hr2' := Lib.hid hr2
  clear hr2 hhalf hle2 hr10 hr1 hle1
  go_wp2_with (fail)
  clear hW2
  go_at_call 41
  refine (pf_rplus (fun _ => True) r halfR _ _ W2 (Up.any _) hr2'.out hhalf'.out (hsz0'.out.up (by decide)) (halfR_sz.up (by decide))).mono ?_
  rintro e W3 ⟨v3, rfl, hle3, hr3⟩
  rw [hb'.out] at hr3
  obtain ⟨Bn, dn, Bd, dd, rfl, hbn, hbd⟩ := hr3.form
  rw [hsb'.out]
  obtain ⟨W4, hW4, hle4, kb⟩ : ∃ W4, W3.alloc (.cells #[.bool true, .slice Bn (dg (rnum b)).length dn, .slice Bd (dg b.den).length dd] 59) = W4 ∧ Le W3 W4 ∧ W4.heap[W3.heap.size]? = some (.cells #[.bool true, .slice Bn (dg (rnum b)).length dn, .slice Bd (dg b.den).length dd] 59) := ⟨_, rfl, le_alloc _ _, by unfold World.alloc; exact Array.getElem?_push_size⟩
  obtain ⟨d0, d1, d2, -⟩ := cells3 kb
  have hbn4 := hbn.le hle4
  have hbd4 := hbd.le hle4
  have hle04 := ((hle1'.out.trans hle2'.out).trans hle3).trans hle4
  have ms1 := hbs'.out.1
  have ms2 := hbs'.out.2
  have hd0 := Nat.ne_of_gt (rden_pos b)
  have hover := pf_over (fun _ => True) (rnum b) b.den _ _ W4 (Up.any _) hbn4 hbd4 (by omega) (by omega) hd0
  rw [hq0'.out, hm0'.out] at hover
  have hlq : (dg N).length ≤ 2001 := by rw [← hq0'.out]; exact Nat.le_trans (dg_length_mono (Nat.div_le_self _ _)) ms1
  have hle3' := Lib.hid hle3
  have hr3' := Lib.hid hr3
  have hbn' := Lib.hid hbn
  have hbd' := Lib.hid hbd
  have hle4' := Lib.hid hle4
  have kb' := Lib.hid kb
  have hbn4' := Lib.hid hbn4
  have hbd4' := Lib.hid hbd4
  have hle04' := Lib.hid hle04
  have ms1' := Lib.hid ms1
  have ms2' := Lib.hid ms2
  have hd0' := Lib.hid hd0
  have hover' := Lib.hid hover
  have hlq' := Lib.hid hlq
  clear hlq hover hd0 ms2 ms1 hle04 hbd4 hbn4 kb hle4 hbd hbn hr3 hle3
  go_wp2_with (fail)
  clear hW4
  go_at_call 42
  refine hover'.out.mono ?_
  rintro e W5 ⟨vq, vm, rfl, hle5, hq5, hm5⟩
  obtain ⟨Aq, cq, rfl⟩ := hq5.slice
  obtain ⟨Am, cm, rfl⟩ := hm5.slice
  have kb5 := (hle5.block _ (Array.getElem?_eq_some_iff.1 kb'.out).1).trans kb'.out
  clear d0 d1 d2
  obtain ⟨d0, d1, d2, -⟩ := cells3 kb5
  have hle05 := hle04'.out.trans hle5
  have hl8 : (dg N).length ≤ 100000000 := by have := hlq'.out; omega
  have hq8 := hq5
  have kb8 := kb5
  have hle08 := hle05
  have hl1 : (dg m0).length = 0 := by rw [hm0p, dg_zero]; rfl
  rw [hl1]
  clear hl1
  have hle5' := Lib.hid hle5
  have hq5' := Lib.hid hq5
  have hm5' := Lib.hid hm5
  have kb5' := Lib.hid kb5
  have hle05' := Lib.hid hle05
  have hq8' := Lib.hid hq8
  have kb8' := Lib.hid kb8
  have hle08' := Lib.hid hle08
  clear hle08 kb8 hq8 hle05 kb5 hm5 hq5 hle5
  -- the number is there: q8, in W5
  obtain ⟨F, hF⟩ : ∃ F : Nat, F = 4611686018427387904 := ⟨_, rfl⟩
  have hFi : (F : Int) = 4611686018427387904 := by rw [hF]; rfl
  have hsm := pf_small F W5 (by omega)
  rw [hFi] at hsm
  have hsm' := Lib.hid hsm
  have hF' := Lib.hid hF
  have hFi' := Lib.hid hFi
  clear hFi hF hsm
  go_wp2_with (fail)
  go_at_call 46
  refine hsm'.out.mono ?_
  rintro e W9 ⟨v9, rfl, hle9, hown9⟩
  have hn9 : NumL (fun _ => True) .u32 W9 v9 F := ArrL.of_own hown9 (fun _ _ => trivial)
  obtain ⟨A9, c9, rfl⟩ := hn9.slice
  have hq9 := hq8'.out.le hle9
  have hcmp := pf_compare (fun _ => True) N F _ _ W9 hq9 hn9 (by omega) (Nat.le_trans (dg_u64 (by have := hF'.out; omega)) (by decide))
  have kb9 := (Below.block hle9 _ (Array.getElem?_eq_some_iff.1 kb8'.out).1).trans kb8'.out
  have hle09 := hle08'.out.trans hle9
  have hle9' := Lib.hid hle9
  have hown9' := Lib.hid hown9
  have hn9' := Lib.hid hn9
  have hq9' := Lib.hid hq9
  have hcmp' := Lib.hid hcmp
  have kb9' := Lib.hid kb9
  have hle09' := Lib.hid hle09
  clear hle09 kb9 hcmp hq9 hn9 hown9 hle9
  go_wp2_with (fail)
  go_at_call 45
  refine hcmp'.out.mono ?_
  rintro e W10 ⟨cc, rfl, hle10, hc1, hc2⟩
  have kb10 := (Below.block hle10 _ (Array.getElem?_eq_some_iff.1 kb9'.out).1).trans kb9'.out
  have hle010 := hle09'.out.trans hle10
  have hq10 := hq9'.out.le hle10
  obtain ⟨e0, e1, e2, -⟩ := cells3 kb10
  have hcd : cc ≤ 0 ↔ N ≤ 4611686018427387904 := by
    have hF := hF'.out
    constructor
    · intro h
      rcases Int.lt_or_eq_of_le h with h | h
      · have := hc1.1 h; omega
      · have := hc2.1 h; omega
    · intro h
      rcases Nat.lt_or_eq_of_le h with h | h
      · have := hc1.2 (by omega); omega
      · have := hc2.2 (by omega); omega
  have hcn : decide (cc ≤ 0) = false := decide_eq_false (fun h => absurd (hcd.1 h) (by omega))
  have hle10' := Lib.hid hle10
  have hc1' := Lib.hid hc1
  have hc2' := Lib.hid hc2
  have kb10' := Lib.hid kb10
  have hle010' := Lib.hid hle010
  have hq10' := Lib.hid hq10
  have hcd' := Lib.hid hcd
  clear hcd hq10 hle010 kb10 hc2 hc1 hle10
  go_wp2_with (fail)
  go_at_call 44
  refine (pf_must_no _ _).mono ?_
  rintro e W11 ⟨rfl, rfl⟩
  go_wp2_with (fail)
  exact ⟨rfl, hle010'.out, .inr ⟨by rw [hE'.out]; decide, by rw [hE'.out]⟩⟩
set_option maxRecDepth 100000 in
set_option maxHeartbeats 1000000 in
theorem pf_Nearest1_fitA (x : FracA) (r : Rat) (Bx : Nat) (va : Value) (w : World) (hx : FBox w Bx va x) (hr : x.rat? = some r) (N q0 m0 : Nat) (hN : nearQ r = N) (hq0 : rnum (r + halfR) / (r + halfR).den = q0) (hm0 : rnum (r + halfR) % (r + halfR).den = m0) (hfit : N ≤ 4611686018427387904) (hsb : rneg (r + halfR) = true) (hm0p : m0 ≠ 0) :
    Calls Try.prog 40 #[.pointer (some ⟨Bx, 0, none⟩)] w (NearPost x w) := by
  obtain ⟨A, c, A', c', rfl, kx, hxa⟩ := hx
  obtain ⟨a0, a1, a2, a3⟩ := cells4 kx
  have hsz0 := FracA.sz hr
  obtain ⟨b, hb⟩ : ∃ b, r + halfR = b := ⟨_, rfl⟩
  rw [hb] at hq0 hm0 hsb
  have hbs : Rsz b 2001 := by rw [← hb]; exact rsz_add (n := 1000) (hsz0.up (by decide)) (halfR_sz.up (by decide))
  have hE : nearE x = (sg true N, 0) := by
    unfold nearE nearFits
    rw [hr]
    simp only [hN]
    rw [decide_eq_true hfit]
    simp only [if_true]
    unfold nearV
    rw [hN, if_pos hfit, hb, hsb]
  have hNE : q0 + 1 = N := by
    rw [← hN, ← hq0]
    unfold nearQ
    rw [hb, hsb]
    rw [hm0]
    rw [if_pos ⟨rfl, hm0p⟩]
  have kx' := Lib.hid kx
  have hxa' := Lib.hid hxa
  have hr' := Lib.hid hr
  have hN' := Lib.hid hN
  have hsz0' := Lib.hid hsz0
  have hb' := Lib.hid hb
  have hbs' := Lib.hid hbs
  have hE' := Lib.hid hE
  have hNE' := Lib.hid hNE
  have hsb' := Lib.hid hsb
  have hq0' := Lib.hid hq0
  have hm0' := Lib.hid hm0
  clear hm0 hq0 hsb hNE hE hbs hb hsz0 hN hr hxa kx
  refine (callsIn_wide (n := 5)).1 ?_
  refine callsIn_of_wp_marks Try.func40 rfl trivial ?_ rfl
  simp only [Try.ntmps40, List.size_toArray, List.length_cons, List.length_nil, Nat.reduceAdd, Nat.reduceSub, Array.replicate_succ, Array.replicate_zero, List.push_toArray, List.append_toArray, List.nil_append, List.cons_append]
  refine wpIn_wide.2 ?_
  go_wp2_with (fail)
  go_at_call 35
  refine (pf_in_some (fun _ => True) x r _ _ (Up.any _) hxa'.out hr'.out).mono ?_
  rintro e W1 ⟨v1, rfl, hle1, hr1⟩
  have hr10 := hr1
  obtain ⟨A1, c1, A2, c2, rfl, -, -⟩ := hr1.form
  obtain ⟨W2, hW2, hsz2, hle2, -, -⟩ := new2_le W1 (.cells #[.int .u32 1] 69) (.cells #[.int .u32 2] 69)
  have hhalf := half_lit W1 69
  rw [hW2] at hhalf
  have hr2 := hr10.le hle2
  have hle1' := Lib.hid hle1
  have hr1' := Lib.hid hr1
  have hr10' := Lib.hid hr10
  have hle2' := Lib.hid hle2
  have hhalf' := Lib.hid hhalf
  have hr2' := Lib.hid hr2
  clear hr2 hhalf hle2 hr10 hr1 hle1
  go_wp2_with (fail)
  clear hW2
  go_at_call 41
  refine (pf_rplus (fun _ => True) r halfR _ _ W2 (Up.any _) hr2'.out hhalf'.out (hsz0'.out.up (by decide)) (halfR_sz.up (by decide))).mono ?_
  rintro e W3 ⟨v3, rfl, hle3, hr3⟩
  rw [hb'.out] at hr3
  obtain ⟨Bn, dn, Bd, dd, rfl, hbn, hbd⟩ := hr3.form
  rw [hsb'.out]
  obtain ⟨W4, hW4, hle4, kb⟩ : ∃ W4, W3.alloc (.cells #[.bool true, .slice Bn (dg (rnum b)).length dn, .slice Bd (dg b.den).length dd] 59) = W4 ∧ Le W3 W4 ∧ W4.heap[W3.heap.size]? = some (.cells #[.bool true, .slice Bn (dg (rnum b)).length dn, .slice Bd (dg b.den).length dd] 59) := ⟨_, rfl, le_alloc _ _, by unfold World.alloc; exact Array.getElem?_push_size⟩
  obtain ⟨d0, d1, d2, -⟩ := cells3 kb
  have hbn4 := hbn.le hle4
  have hbd4 := hbd.le hle4
  have hle04 := ((hle1'.out.trans hle2'.out).trans hle3).trans hle4
  have ms1 := hbs'.out.1
  have ms2 := hbs'.out.2
  have hd0 := Nat.ne_of_gt (rden_pos b)
  have hover := pf_over (fun _ => True) (rnum b) b.den _ _ W4 (Up.any _) hbn4 hbd4 (by omega) (by omega) hd0
  rw [hq0'.out, hm0'.out] at hover
  have hlq : (dg q0).length ≤ 2001 := by rw [← hq0'.out]; exact Nat.le_trans (dg_length_mono (Nat.div_le_self _ _)) ms1
  have hle3' := Lib.hid hle3
  have hr3' := Lib.hid hr3
  have hbn' := Lib.hid hbn
  have hbd' := Lib.hid hbd
  have hle4' := Lib.hid hle4
  have kb' := Lib.hid kb
  have hbn4' := Lib.hid hbn4
  have hbd4' := Lib.hid hbd4
  have hle04' := Lib.hid hle04
  have ms1' := Lib.hid ms1
  have ms2' := Lib.hid ms2
  have hd0' := Lib.hid hd0
  have hover' := Lib.hid hover
  have hlq' := Lib.hid hlq
  clear hlq hover hd0 ms2 ms1 hle04 hbd4 hbn4 kb hle4 hbd hbn hr3 hle3
  go_wp2_with (fail)
  clear hW4
  go_at_call 42
  refine hover'.out.mono ?_
  rintro e W5 ⟨vq, vm, rfl, hle5, hq5, hm5⟩
  obtain ⟨Aq, cq, rfl⟩ := hq5.slice
  obtain ⟨Am, cm, rfl⟩ := hm5.slice
  have kb5 := (hle5.block _ (Array.getElem?_eq_some_iff.1 kb'.out).1).trans kb'.out
  clear d0 d1 d2
  obtain ⟨d0, d1, d2, -⟩ := cells3 kb5
  have hle05 := hle04'.out.trans hle5
  have hl1 : 0 < ((dg m0).length : Int) := by have := dg_length_pos.2 hm0p; omega
  have hl2 : 0 < (dg m0).length := dg_length_pos.2 hm0p
  have hone := numL_newg (L := fun _ => True) (k := .u32) (V := W5) (g := 1) (fun _ _ => trivial) (by omega) dg_one_lt 69
  obtain ⟨W6, hW6, hle6⟩ : ∃ W6, W5.alloc (.cells #[.int .u32 1] 69) = W6 ∧ Le W5 W6 := ⟨_, rfl, le_alloc _ _⟩
  rw [show ((1 : Nat) : Int) = 1 from rfl, hW6] at hone
  have hpl := pf_plus (fun _ => True) q0 1 _ _ W6 (Up.any _) (hq5.le hle6) hone (by have := hlq'.out; omega) (by rw [dg_one]; simp)
  rw [hNE'.out] at hpl
  have hle5' := Lib.hid hle5
  have hq5' := Lib.hid hq5
  have hm5' := Lib.hid hm5
  have kb5' := Lib.hid kb5
  have hle05' := Lib.hid hle05
  have hone' := Lib.hid hone
  have hle6' := Lib.hid hle6
  have hpl' := Lib.hid hpl
  clear hpl hle6 hone hle05 kb5 hm5 hq5 hle5
  go_wp2_with (fail)
  clear hW6
  go_at_call 43
  refine hpl'.out.mono ?_
  rintro e W8 ⟨v8, rfl, hle7, hq8⟩
  obtain ⟨A8, c8, rfl⟩ := hq8.slice
  have kb8 := ((hle6'.out.trans hle7).block _ (Array.getElem?_eq_some_iff.1 kb5'.out).1).trans kb5'.out
  have hle08 := hle05'.out.trans (hle6'.out.trans hle7)
  have hl8 : (dg N).length ≤ 100000000 := by
    have h1 := dg_length_add q0 1
    rw [hNE'.out] at h1
    have h2 := hlq'.out
    have h3 : (dg 1).length = 1 := by rw [dg_one]; rfl
    omega
  clear d0 d1 d2 hl1 hl2
  have hle7' := Lib.hid hle7
  have hq8' := Lib.hid hq8
  have kb8' := Lib.hid kb8
  have hle08' := Lib.hid hle08
  clear hle08 kb8 hq8 hle7
  -- the number is there: q8, in W8
  obtain ⟨F, hF⟩ : ∃ F : Nat, F = 4611686018427387904 := ⟨_, rfl⟩
  have hFi : (F : Int) = 4611686018427387904 := by rw [hF]; rfl
  have hsm := pf_small F W8 (by omega)
  rw [hFi] at hsm
  have hsm' := Lib.hid hsm
  have hF' := Lib.hid hF
  have hFi' := Lib.hid hFi
  clear hFi hF hsm
  go_wp2_with (fail)
  go_at_call 46
  refine hsm'.out.mono ?_
  rintro e W9 ⟨v9, rfl, hle9, hown9⟩
  have hn9 : NumL (fun _ => True) .u32 W9 v9 F := ArrL.of_own hown9 (fun _ _ => trivial)
  obtain ⟨A9, c9, rfl⟩ := hn9.slice
  have hq9 := hq8'.out.le hle9
  have hcmp := pf_compare (fun _ => True) N F _ _ W9 hq9 hn9 (by omega) (Nat.le_trans (dg_u64 (by have := hF'.out; omega)) (by decide))
  have kb9 := (Below.block hle9 _ (Array.getElem?_eq_some_iff.1 kb8'.out).1).trans kb8'.out
  have hle09 := hle08'.out.trans hle9
  have hle9' := Lib.hid hle9
  have hown9' := Lib.hid hown9
  have hn9' := Lib.hid hn9
  have hq9' := Lib.hid hq9
  have hcmp' := Lib.hid hcmp
  have kb9' := Lib.hid kb9
  have hle09' := Lib.hid hle09
  clear hle09 kb9 hcmp hq9 hn9 hown9 hle9
  go_wp2_with (fail)
  go_at_call 45
  refine hcmp'.out.mono ?_
  rintro e W10 ⟨cc, rfl, hle10, hc1, hc2⟩
  have kb10 := (Below.block hle10 _ (Array.getElem?_eq_some_iff.1 kb9'.out).1).trans kb9'.out
  have hle010 := hle09'.out.trans hle10
  have hq10 := hq9'.out.le hle10
  obtain ⟨e0, e1, e2, -⟩ := cells3 kb10
  have hcd : cc ≤ 0 ↔ N ≤ 4611686018427387904 := by
    have hF := hF'.out
    constructor
    · intro h
      rcases Int.lt_or_eq_of_le h with h | h
      · have := hc1.1 h; omega
      · have := hc2.1 h; omega
    · intro h
      rcases Nat.lt_or_eq_of_le h with h | h
      · have := hc1.2 (by omega); omega
      · have := hc2.2 (by omega); omega
  have hcn : cc ≤ 0 := hcd.2 hfit
  have hle10' := Lib.hid hle10
  have hc1' := Lib.hid hc1
  have hc2' := Lib.hid hc2
  have kb10' := Lib.hid kb10
  have hle010' := Lib.hid hle010
  have hq10' := Lib.hid hq10
  have hcd' := Lib.hid hcd
  clear hcd hq10 hle010 kb10 hc2 hc1 hle10
  go_wp2_with (fail)
  go_at_call 44
  refine (pf_must_ok _ _).mono ?_
  rintro e W11 ⟨rfl, rfl⟩
  go_wp2_with (first | (go_at_call 47; ((with_reducible refine (pf_backward _ _ _ _).mono ?_); rintro e w' ⟨rfl, rfl⟩)))
  obtain ⟨W0, hW0, hsz, hBW, h0, h1⟩ := new2_le W10 (.cells #[.int .i64 0] 3) (.cells #[.slice A8 (dg N).length c8] 57)
  rw [hW0]
  clear hW0
  have hyield := backward1_yields (dg N) _ W10 W0 (W10.heap.size + 1) W10.heap.size hq10'.out.arr (by omega) (by omega) (Nat.le_refl _) hBW (cell00 h1)
  have hkbl := (Array.getElem?_eq_some_iff.1 kb10'.out).1
  have hleW0 := hle010'.out.trans hBW
  have hwz := hle010'.out.size
  refine (wpIn_wide (n := 5)).1 ?_
  refine wpIn_rangeFunc_ownG rfl (by omega) (gf := 94) (lb := #[.pointer (some ⟨W10.heap.size + 1, 0, none⟩)]) rfl trivial (enters_of Try.func94 (by kernel_rfl) rfl)
    hyield Kept.trans (Kept.put (by omega) (by simp; omega)) (Below.refl _ _) (fun _ => rfl)
    (NearI W0 W10.heap.size W10.heap.size 3 [W10.heap.size + 1] N) (fun _ _ _ => False) (NearI.from _ _ _ _ _ _ _ (Nat.le_refl _) (by omega) (by omega) (by simp; omega)) (fun _ _ _ _ _ hs _ _ => hs)
    ⟨Kept.refl _ _ _, Nat.le_refl _, 0, h0, fun _ => by simp [nv]⟩ ?_ ?_ ?_ ?_ ?_
  rotate_left
  · intro l x9 W K hK
    dsimp only [backAt]
    gi_wp2
    exact hK
  · rintro l pre x9 W ⟨k1, k2, z, g5, g6⟩ hlen2
    have hx9 := x9.2
    obtain ⟨m, hm⟩ : ∃ m, (dg N).length - 1 - x9.1 = m := ⟨_, rfl⟩
    obtain ⟨g, hg⟩ : ∃ g, (dg N)[m]?.getD 0 = g := ⟨_, rfl⟩
    have hgB : g < 1000000000 := by
      rw [← hg, ← B9_eq, ← List.getD_eq_getElem?_getD]
      exact getD_lt (low_dg N) m
    have cR := cell00 g5
    have fR := frozen00 g5 0
    have hfin := fun aa => NearI.step (N0 := W0.heap.size) (x := x9) hfit k1 k2 g5 g6 m g hm hg (Nat.le_refl _) (by simp) aa
    rw [hm, hg]
    clear hyield k1 k2 g6 h0 h1
    have hg' := Lib.hid hg
    have hm' := Lib.hid hm
    have hfin' := Lib.hid hfin
    have g5' := Lib.hid g5
    clear g5 hfin hm hg
    gi_wp2
    exact hfin'.out _
  · rintro D ys W hD rfl ⟨k1, k2, z, g5, g6⟩ hDK
    have hz := g6 (finRange_pre _)
    rw [List.length_finRange, Nat.sub_self, List.drop_zero, nv_dg] at hz
    subst hz
    have cR := cell00 g5
    have kbW := ((Below.trans hBW k1.1).block _ hkbl).trans kb10'.out
    have hLe : Le w W := Below.trans hleW0 (k1.1.mono (by omega))
    clear e0 e1 e2
    obtain ⟨e0, e1, e2, -⟩ := cells3 kbW
    have hbN : (N : Int) ≤ 4611686018427387904 := by omega
    clear hyield k1 h0 h1 g6 g5 hBW hleW0
    have hDK' := Lib.hid hDK
    have hLe' := Lib.hid hLe
    have kbW' := Lib.hid kbW
    clear kbW hLe hDK
    go_wp2
    refine leaves_marks w.heap.size [{ target := .collected D, args := #[] }] _ ⟨⟨D, rfl, by omega, hDK'.out, by simp⟩, trivial⟩ fun w9 hb hkeep => ?_
    refine ⟨_, results_tmp rfl _ _ _, Below.trans hLe'.out hb, .inl ⟨by rw [hE'.out], ?_⟩⟩
    rw [hE'.out]
    rfl
  · rintro D cc9 pre W _ _ h _
    exact h.elim
set_option maxRecDepth 100000 in
set_option maxHeartbeats 1000000 in
theorem pf_Nearest1_fitB (x : FracA) (r : Rat) (Bx : Nat) (va : Value) (w : World) (hx : FBox w Bx va x) (hr : x.rat? = some r) (N q0 m0 : Nat) (hN : nearQ r = N) (hq0 : rnum (r + halfR) / (r + halfR).den = q0) (hm0 : rnum (r + halfR) % (r + halfR).den = m0) (hfit : N ≤ 4611686018427387904) (hsb : rneg (r + halfR) = false) :
    Calls Try.prog 40 #[.pointer (some ⟨Bx, 0, none⟩)] w (NearPost x w) := by
  obtain ⟨A, c, A', c', rfl, kx, hxa⟩ := hx
  obtain ⟨a0, a1, a2, a3⟩ := cells4 kx
  have hsz0 := FracA.sz hr
  obtain ⟨b, hb⟩ : ∃ b, r + halfR = b := ⟨_, rfl⟩
  rw [hb] at hq0 hm0 hsb
  have hbs : Rsz b 2001 := by rw [← hb]; exact rsz_add (n := 1000) (hsz0.up (by decide)) (halfR_sz.up (by decide))
  have hE : nearE x = (sg false N, 0) := by
    unfold nearE nearFits
    rw [hr]
    simp only [hN]
    rw [decide_eq_true hfit]
    simp only [if_true]
    unfold nearV
    rw [hN, if_pos hfit, hb, hsb]
  have hNE : q0 = N := by
    rw [← hN, ← hq0]
    unfold nearQ
    rw [hb, hsb]
    rw [if_neg (by simp)]; rfl
  obtain rfl : N = q0 := hNE.symm
  have kx' := Lib.hid kx
  have hxa' := Lib.hid hxa
  have hr' := Lib.hid hr
  have hN' := Lib.hid hN
  have hsz0' := Lib.hid hsz0
  have hb' := Lib.hid hb
  have hbs' := Lib.hid hbs
  have hE' := Lib.hid hE
  have hNE' := Lib.hid hNE
  have hsb' := Lib.hid hsb
  have hq0' := Lib.hid hq0
  have hm0' := Lib.hid hm0
  clear hm0 hq0 hsb hNE hE hbs hb hsz0 hN hr hxa kx
  refine (callsIn_wide (n := 5)).1 ?_
  refine callsIn_of_wp_marks Try.func40 rfl trivial ?_ rfl
  simp only [Try.ntmps40, List.size_toArray, List.length_cons, List.length_nil, Nat.reduceAdd, Nat.reduceSub, Array.replicate_succ, Array.replicate_zero, List.push_toArray, List.append_toArray, List.nil_append, List.cons_append]
  refine wpIn_wide.2 ?_
  go_wp2_with (fail)
  go_at_call 35
  refine (pf_in_some (fun _ => True) x r _ _ (Up.any _) hxa'.out hr'.out).mono ?_
  rintro e W1 ⟨v1, rfl, hle1, hr1⟩
  have hr10 := hr1
  obtain ⟨A1, c1, A2, c2, rfl, -, -⟩ := hr1.form
  obtain ⟨W2, hW2, hsz2, hle2, -, -⟩ := new2_le W1 (.cells #[.int .u32 1] 69) (.cells #[.int .u32 2] 69)
  have hhalf := half_lit W1 69
  rw [hW2] at hhalf
  have hr2 := hr10.le hle2
  have hle1' := Lib.hid hle1
  have hr1' := Lib.hid hr1
  have hr10' := Lib.hid hr10
  have hle2' := Lib.hid hle2
  have hhalf' := Lib.hid hhalf
  have hr2' := Lib.hid hr2
  clear hr2 hhalf hle2 hr10 hr1 hle1
  go_wp2_with (fail)
  clear hW2
  go_at_call 41
  refine (pf_rplus (fun _ => True) r halfR _ _ W2 (Up.any _) hr2'.out hhalf'.out (hsz0'.out.up (by decide)) (halfR_sz.up (by decide))).mono ?_
  rintro e W3 ⟨v3, rfl, hle3, hr3⟩
  rw [hb'.out] at hr3
  obtain ⟨Bn, dn, Bd, dd, rfl, hbn, hbd⟩ := hr3.form
  rw [hsb'.out]
  obtain ⟨W4, hW4, hle4, kb⟩ : ∃ W4, W3.alloc (.cells #[.bool false, .slice Bn (dg (rnum b)).length dn, .slice Bd (dg b.den).length dd] 59) = W4 ∧ Le W3 W4 ∧ W4.heap[W3.heap.size]? = some (.cells #[.bool false, .slice Bn (dg (rnum b)).length dn, .slice Bd (dg b.den).length dd] 59) := ⟨_, rfl, le_alloc _ _, by unfold World.alloc; exact Array.getElem?_push_size⟩
  obtain ⟨d0, d1, d2, -⟩ := cells3 kb
  have hbn4 := hbn.le hle4
  have hbd4 := hbd.le hle4
  have hle04 := ((hle1'.out.trans hle2'.out).trans hle3).trans hle4
  have ms1 := hbs'.out.1
  have ms2 := hbs'.out.2
  have hd0 := Nat.ne_of_gt (rden_pos b)
  have hover := pf_over (fun _ => True) (rnum b) b.den _ _ W4 (Up.any _) hbn4 hbd4 (by omega) (by omega) hd0
  rw [hq0'.out, hm0'.out] at hover
  have hlq : (dg N).length ≤ 2001 := by rw [← hq0'.out]; exact Nat.le_trans (dg_length_mono (Nat.div_le_self _ _)) ms1
  have hle3' := Lib.hid hle3
  have hr3' := Lib.hid hr3
  have hbn' := Lib.hid hbn
  have hbd' := Lib.hid hbd
  have hle4' := Lib.hid hle4
  have kb' := Lib.hid kb
  have hbn4' := Lib.hid hbn4
  have hbd4' := Lib.hid hbd4
  have hle04' := Lib.hid hle04
  have ms1' := Lib.hid ms1
  have ms2' := Lib.hid ms2
  have hd0' := Lib.hid hd0
  have hover' := Lib.hid hover
  have hlq' := Lib.hid hlq
  clear hlq hover hd0 ms2 ms1 hle04 hbd4 hbn4 kb hle4 hbd hbn hr3 hle3
  go_wp2_with (fail)
  clear hW4
  go_at_call 42
  refine hover'.out.mono ?_
  rintro e W5 ⟨vq, vm, rfl, hle5, hq5, hm5⟩
  obtain ⟨Aq, cq, rfl⟩ := hq5.slice
  obtain ⟨Am, cm, rfl⟩ := hm5.slice
  have kb5 := (hle5.block _ (Array.getElem?_eq_some_iff.1 kb'.out).1).trans kb'.out
  clear d0 d1 d2
  obtain ⟨d0, d1, d2, -⟩ := cells3 kb5
  have hle05 := hle04'.out.trans hle5
  have hl8 : (dg N).length ≤ 100000000 := by have := hlq'.out; omega
  have hq8 := hq5
  have kb8 := kb5
  have hle08 := hle05
  have hle5' := Lib.hid hle5
  have hq5' := Lib.hid hq5
  have hm5' := Lib.hid hm5
  have kb5' := Lib.hid kb5
  have hle05' := Lib.hid hle05
  have hq8' := Lib.hid hq8
  have kb8' := Lib.hid kb8
  have hle08' := Lib.hid hle08
  clear hle08 kb8 hq8 hle05 kb5 hm5 hq5 hle5
  -- the number is there: q8, in W5
  obtain ⟨F, hF⟩ : ∃ F : Nat, F = 4611686018427387904 := ⟨_, rfl⟩
  have hFi : (F : Int) = 4611686018427387904 := by rw [hF]; rfl
  have hsm := pf_small F W5 (by omega)
  rw [hFi] at hsm
  have hsm' := Lib.hid hsm
  have hF' := Lib.hid hF
  have hFi' := Lib.hid hFi
  clear hFi hF hsm
  go_wp2_with (fail)
  go_at_call 46
  refine hsm'.out.mono ?_
  rintro e W9 ⟨v9, rfl, hle9, hown9⟩
  have hn9 : NumL (fun _ => True) .u32 W9 v9 F := ArrL.of_own hown9 (fun _ _ => trivial)
  obtain ⟨A9, c9, rfl⟩ := hn9.slice
  have hq9 := hq8'.out.le hle9
  have hcmp := pf_compare (fun _ => True) N F _ _ W9 hq9 hn9 (by omega) (Nat.le_trans (dg_u64 (by have := hF'.out; omega)) (by decide))
  have kb9 := (Below.block hle9 _ (Array.getElem?_eq_some_iff.1 kb8'.out).1).trans kb8'.out
  have hle09 := hle08'.out.trans hle9
  have hle9' := Lib.hid hle9
  have hown9' := Lib.hid hown9
  have hn9' := Lib.hid hn9
  have hq9' := Lib.hid hq9
  have hcmp' := Lib.hid hcmp
  have kb9' := Lib.hid kb9
  have hle09' := Lib.hid hle09
  clear hle09 kb9 hcmp hq9 hn9 hown9 hle9
  go_wp2_with (fail)
  go_at_call 45
  refine hcmp'.out.mono ?_
  rintro e W10 ⟨cc, rfl, hle10, hc1, hc2⟩
  have kb10 := (Below.block hle10 _ (Array.getElem?_eq_some_iff.1 kb9'.out).1).trans kb9'.out
  have hle010 := hle09'.out.trans hle10
  have hq10 := hq9'.out.le hle10
  obtain ⟨e0, e1, e2, -⟩ := cells3 kb10
  have hcd : cc ≤ 0 ↔ N ≤ 4611686018427387904 := by
    have hF := hF'.out
    constructor
    · intro h
      rcases Int.lt_or_eq_of_le h with h | h
      · have := hc1.1 h; omega
      · have := hc2.1 h; omega
    · intro h
      rcases Nat.lt_or_eq_of_le h with h | h
      · have := hc1.2 (by omega); omega
      · have := hc2.2 (by omega); omega
  have hcn : cc ≤ 0 := hcd.2 hfit
  have hle10' := Lib.hid hle10
  have hc1' := Lib.hid hc1
  have hc2' := Lib.hid hc2
  have kb10' := Lib.hid kb10
  have hle010' := Lib.hid hle010
  have hq10' := Lib.hid hq10
  have hcd' := Lib.hid hcd
  clear hcd hq10 hle010 kb10 hc2 hc1 hle10
  go_wp2_with (fail)
  go_at_call 44
  refine (pf_must_ok _ _).mono ?_
  rintro e W11 ⟨rfl, rfl⟩
  go_wp2_with (first | (go_at_call 47; ((with_reducible refine (pf_backward _ _ _ _).mono ?_); rintro e w' ⟨rfl, rfl⟩)))
  obtain ⟨W0, hW0, hsz, hBW, h0, h1⟩ := new2_le W10 (.cells #[.int .i64 0] 3) (.cells #[.slice Aq (dg N).length cq] 57)
  rw [hW0]
  clear hW0
  have hyield := backward1_yields (dg N) _ W10 W0 (W10.heap.size + 1) W10.heap.size hq10'.out.arr (by omega) (by omega) (Nat.le_refl _) hBW (cell00 h1)
  have hkbl := (Array.getElem?_eq_some_iff.1 kb10'.out).1
  have hleW0 := hle010'.out.trans hBW
  have hwz := hle010'.out.size
  refine (wpIn_wide (n := 5)).1 ?_
  refine wpIn_rangeFunc_ownG rfl (by omega) (gf := 94) (lb := #[.pointer (some ⟨W10.heap.size + 1, 0, none⟩)]) rfl trivial (enters_of Try.func94 (by kernel_rfl) rfl)
    hyield Kept.trans (Kept.put (by omega) (by simp; omega)) (Below.refl _ _) (fun _ => rfl)
    (NearI W0 W10.heap.size W10.heap.size 3 [W10.heap.size + 1] N) (fun _ _ _ => False) (NearI.from _ _ _ _ _ _ _ (Nat.le_refl _) (by omega) (by omega) (by simp; omega)) (fun _ _ _ _ _ hs _ _ => hs)
    ⟨Kept.refl _ _ _, Nat.le_refl _, 0, h0, fun _ => by simp [nv]⟩ ?_ ?_ ?_ ?_ ?_
  rotate_left
  · intro l x9 W K hK
    dsimp only [backAt]
    gi_wp2
    exact hK
  · rintro l pre x9 W ⟨k1, k2, z, g5, g6⟩ hlen2
    have hx9 := x9.2
    obtain ⟨m, hm⟩ : ∃ m, (dg N).length - 1 - x9.1 = m := ⟨_, rfl⟩
    obtain ⟨g, hg⟩ : ∃ g, (dg N)[m]?.getD 0 = g := ⟨_, rfl⟩
    have hgB : g < 1000000000 := by
      rw [← hg, ← B9_eq, ← List.getD_eq_getElem?_getD]
      exact getD_lt (low_dg N) m
    have cR := cell00 g5
    have fR := frozen00 g5 0
    have hfin := fun aa => NearI.step (N0 := W0.heap.size) (x := x9) hfit k1 k2 g5 g6 m g hm hg (Nat.le_refl _) (by simp) aa
    rw [hm, hg]
    clear hyield k1 k2 g6 h0 h1
    have hg' := Lib.hid hg
    have hm' := Lib.hid hm
    have hfin' := Lib.hid hfin
    have g5' := Lib.hid g5
    clear g5 hfin hm hg
    gi_wp2
    exact hfin'.out _
  · rintro D ys W hD rfl ⟨k1, k2, z, g5, g6⟩ hDK
    have hz := g6 (finRange_pre _)
    rw [List.length_finRange, Nat.sub_self, List.drop_zero, nv_dg] at hz
    subst hz
    have cR := cell00 g5
    have kbW := ((Below.trans hBW k1.1).block _ hkbl).trans kb10'.out
    have hLe : Le w W := Below.trans hleW0 (k1.1.mono (by omega))
    clear e0 e1 e2
    obtain ⟨e0, e1, e2, -⟩ := cells3 kbW
    have hbN : (N : Int) ≤ 4611686018427387904 := by omega
    clear hyield k1 h0 h1 g6 g5 hBW hleW0
    have hDK' := Lib.hid hDK
    have hLe' := Lib.hid hLe
    have kbW' := Lib.hid kbW
    clear kbW hLe hDK
    go_wp2
    refine leaves_marks w.heap.size [{ target := .collected D, args := #[] }] _ ⟨⟨D, rfl, by omega, hDK'.out, by simp⟩, trivial⟩ fun w9 hb hkeep => ?_
    refine ⟨_, results_tmp rfl _ _ _, Below.trans hLe'.out hb, .inl ⟨by rw [hE'.out], ?_⟩⟩
    rw [hE'.out]
    rfl
  · rintro D cc9 pre W _ _ h _
    exact h.elim
set_option maxRecDepth 100000 in
set_option maxHeartbeats 1000000 in
theorem pf_Nearest1_fitC (x : FracA) (r : Rat) (Bx : Nat) (va : Value) (w : World) (hx : FBox w Bx va x) (hr : x.rat? = some r) (N q0 m0 : Nat) (hN : nearQ r = N) (hq0 : rnum (r + halfR) / (r + halfR).den = q0) (hm0 : rnum (r + halfR) % (r + halfR).den = m0) (hfit : N ≤ 4611686018427387904) (hsb : rneg (r + halfR) = true) (hm0p : m0 = 0) :
    Calls Try.prog 40 #[.pointer (some ⟨Bx, 0, none⟩)] w (NearPost x w) := by
  obtain ⟨A, c, A', c', rfl, kx, hxa⟩ := hx
  obtain ⟨a0, a1, a2, a3⟩ := cells4 kx
  have hsz0 := FracA.sz hr
  obtain ⟨b, hb⟩ : ∃ b, r + halfR = b := ⟨_, rfl⟩
  rw [hb] at hq0 hm0 hsb
  have hbs : Rsz b 2001 := by rw [← hb]; exact rsz_add (n := 1000) (hsz0.up (by decide)) (halfR_sz.up (by decide))
  have hE : nearE x = (sg true N, 0) := by
    unfold nearE nearFits
    rw [hr]
    simp only [hN]
    rw [decide_eq_true hfit]
    simp only [if_true]
    unfold nearV
    rw [hN, if_pos hfit, hb, hsb]
  have hNE : q0 = N := by
    rw [← hN, ← hq0]
    unfold nearQ
    rw [hb, hsb]
    rw [hm0, if_neg (by rw [hm0p]; simp)]; rfl
  obtain rfl : N = q0 := hNE.symm
  have kx' := Lib.hid kx
  have hxa' := Lib.hid hxa
  have hr' := Lib.hid hr
  have hN' := Lib.hid hN
  have hsz0' := Lib.hid hsz0
  have hb' := Lib.hid hb
  have hbs' := Lib.hid hbs
  have hE' := Lib.hid hE
  have hNE' := Lib.hid hNE
  have hsb' := Lib.hid hsb
  have hq0' := Lib.hid hq0
  have hm0' := Lib.hid hm0
  clear hm0 hq0 hsb hNE hE hbs hb hsz0 hN hr hxa kx
  refine (callsIn_wide (n := 5)).1 ?_
  refine callsIn_of_wp_marks Try.func40 rfl trivial ?_ rfl
  simp only [Try.ntmps40, List.size_toArray, List.length_cons, List.length_nil, Nat.reduceAdd, Nat.reduceSub, Array.replicate_succ, Array.replicate_zero, List.push_toArray, List.append_toArray, List.nil_append, List.cons_append]
  refine wpIn_wide.2 ?_
  go_wp2_with (fail)
  go_at_call 35
  refine (pf_in_some (fun _ => True) x r _ _ (Up.any _) hxa'.out hr'.out).mono ?_
  rintro e W1 ⟨v1, rfl, hle1, hr1⟩
  have hr10 := hr1
  obtain ⟨A1, c1, A2, c2, rfl, -, -⟩ := hr1.form
  obtain ⟨W2, hW2, hsz2, hle2, -, -⟩ := new2_le W1 (.cells #[.int .u32 1] 69) (.cells #[.int .u32 2] 69)
  have hhalf := half_lit W1 69
  rw [hW2] at hhalf
  have hr2 := hr10.le hle2
  have hle1' := Lib.hid hle1
  have hr1' := Lib.hid hr1
  have hr10' := Lib.hid hr10
  have hle2' := Lib.hid hle2
  have hhalf' := Lib.hid hhalf
  have hr2' := Lib.hid hr2
  clear hr2 hhalf hle2 hr10 hr1 hle1
  go_wp2_with (fail)
  clear hW2
  go_at_call 41
  refine (pf_rplus (fun _ => True) r halfR _ _ W2 (Up.any _) hr2'.out hhalf'.out (hsz0'.out.up (by decide)) (halfR_sz.up (by decide))).mono ?_
  rintro e W3 ⟨v3, rfl, hle3, hr3⟩
  rw [hb'.out] at hr3
  obtain ⟨Bn, dn, Bd, dd, rfl, hbn, hbd⟩ := hr3.form
  rw [hsb'.out]
  obtain ⟨W4, hW4, hle4, kb⟩ : ∃ W4, W3.alloc (.cells #[.bool true, .slice Bn (dg (rnum b)).length dn, .slice Bd (dg b.den).length dd] 59) = W4 ∧ Le W3 W4 ∧ W4.heap[W3.heap.size]? = some (.cells #[.bool true, .slice Bn (dg (rnum b)).length dn, .slice Bd (dg b.den).length dd] 59) := ⟨_, rfl, le_alloc _ _, by unfold World.alloc; exact Array.getElem?_push_size⟩
  obtain ⟨d0, d1, d2, -⟩ := cells3 kb
  have hbn4 := hbn.le hle4
  have hbd4 := hbd.le hle4
  have hle04 := ((hle1'.out.trans hle2'.out).trans hle3).trans hle4
  have ms1 := hbs'.out.1
  have ms2 := hbs'.out.2
  have hd0 := Nat.ne_of_gt (rden_pos b)
  have hover := pf_over (fun _ => True) (rnum b) b.den _ _ W4 (Up.any _) hbn4 hbd4 (by omega) (by omega) hd0
  rw [hq0'.out, hm0'.out] at hover
  have hlq : (dg N).length ≤ 2001 := by rw [← hq0'.out]; exact Nat.le_trans (dg_length_mono (Nat.div_le_self _ _)) ms1
  have hle3' := Lib.hid hle3
  have hr3' := Lib.hid hr3
  have hbn' := Lib.hid hbn
  have hbd' := Lib.hid hbd
  have hle4' := Lib.hid hle4
  have kb' := Lib.hid kb
  have hbn4' := Lib.hid hbn4
  have hbd4' := Lib.hid hbd4
  have hle04' := Lib.hid hle04
  have ms1' := Lib.hid ms1
  have ms2' := Lib.hid ms2
  have hd0' := Lib.hid hd0
  have hover' := Lib.hid hover
  have hlq' := Lib.hid hlq
  clear hlq hover hd0 ms2 ms1 hle04 hbd4 hbn4 kb hle4 hbd hbn hr3 hle3
  go_wp2_with (fail)
  clear hW4
  go_at_call 42
  refine hover'.out.mono ?_
  rintro e W5 ⟨vq, vm, rfl, hle5, hq5, hm5⟩
  obtain ⟨Aq, cq, rfl⟩ := hq5.slice
  obtain ⟨Am, cm, rfl⟩ := hm5.slice
  have kb5 := (hle5.block _ (Array.getElem?_eq_some_iff.1 kb'.out).1).trans kb'.out
  clear d0 d1 d2
  obtain ⟨d0, d1, d2, -⟩ := cells3 kb5
  have hle05 := hle04'.out.trans hle5
  have hl8 : (dg N).length ≤ 100000000 := by have := hlq'.out; omega
  have hq8 := hq5
  have kb8 := kb5
  have hle08 := hle05
  have hl1 : (dg m0).length = 0 := by rw [hm0p, dg_zero]; rfl
  rw [hl1]
  clear hl1
  have hle5' := Lib.hid hle5
  have hq5' := Lib.hid hq5
  have hm5' := Lib.hid hm5
  have kb5' := Lib.hid kb5
  have hle05' := Lib.hid hle05
  have hq8' := Lib.hid hq8
  have kb8' := Lib.hid kb8
  have hle08' := Lib.hid hle08
  clear hle08 kb8 hq8 hle05 kb5 hm5 hq5 hle5
  -- the number is there: q8, in W5
  obtain ⟨F, hF⟩ : ∃ F : Nat, F = 4611686018427387904 := ⟨_, rfl⟩
  have hFi : (F : Int) = 4611686018427387904 := by rw [hF]; rfl
  have hsm := pf_small F W5 (by omega)
  rw [hFi] at hsm
  have hsm' := Lib.hid hsm
  have hF' := Lib.hid hF
  have hFi' := Lib.hid hFi
  clear hFi hF hsm
  go_wp2_with (fail)
  go_at_call 46
  refine hsm'.out.mono ?_
  rintro e W9 ⟨v9, rfl, hle9, hown9⟩
  have hn9 : NumL (fun _ => True) .u32 W9 v9 F := ArrL.of_own hown9 (fun _ _ => trivial)
  obtain ⟨A9, c9, rfl⟩ := hn9.slice
  have hq9 := hq8'.out.le hle9
  have hcmp := pf_compare (fun _ => True) N F _ _ W9 hq9 hn9 (by omega) (Nat.le_trans (dg_u64 (by have := hF'.out; omega)) (by decide))
  have kb9 := (Below.block hle9 _ (Array.getElem?_eq_some_iff.1 kb8'.out).1).trans kb8'.out
  have hle09 := hle08'.out.trans hle9
  have hle9' := Lib.hid hle9
  have hown9' := Lib.hid hown9
  have hn9' := Lib.hid hn9
  have hq9' := Lib.hid hq9
  have hcmp' := Lib.hid hcmp
  have kb9' := Lib.hid kb9
  have hle09' := Lib.hid hle09
  clear hle09 kb9 hcmp hq9 hn9 hown9 hle9
  go_wp2_with (fail)
  go_at_call 45
  refine hcmp'.out.mono ?_
  rintro e W10 ⟨cc, rfl, hle10, hc1, hc2⟩
  have kb10 := (Below.block hle10 _ (Array.getElem?_eq_some_iff.1 kb9'.out).1).trans kb9'.out
  have hle010 := hle09'.out.trans hle10
  have hq10 := hq9'.out.le hle10
  obtain ⟨e0, e1, e2, -⟩ := cells3 kb10
  have hcd : cc ≤ 0 ↔ N ≤ 4611686018427387904 := by
    have hF := hF'.out
    constructor
    · intro h
      rcases Int.lt_or_eq_of_le h with h | h
      · have := hc1.1 h; omega
      · have := hc2.1 h; omega
    · intro h
      rcases Nat.lt_or_eq_of_le h with h | h
      · have := hc1.2 (by omega); omega
      · have := hc2.2 (by omega); omega
  have hcn : cc ≤ 0 := hcd.2 hfit
  have hle10' := Lib.hid hle10
  have hc1' := Lib.hid hc1
  have hc2' := Lib.hid hc2
  have kb10' := Lib.hid kb10
  have hle010' := Lib.hid hle010
  have hq10' := Lib.hid hq10
  have hcd' := Lib.hid hcd
  clear hcd hq10 hle010 kb10 hc2 hc1 hle10
  go_wp2_with (fail)
  go_at_call 44
  refine (pf_must_ok _ _).mono ?_
  rintro e W11 ⟨rfl, rfl⟩
  go_wp2_with (first | (go_at_call 47; ((with_reducible refine (pf_backward _ _ _ _).mono ?_); rintro e w' ⟨rfl, rfl⟩)))
  obtain ⟨W0, hW0, hsz, hBW, h0, h1⟩ := new2_le W10 (.cells #[.int .i64 0] 3) (.cells #[.slice Aq (dg N).length cq] 57)
  rw [hW0]
  clear hW0
  have hyield := backward1_yields (dg N) _ W10 W0 (W10.heap.size + 1) W10.heap.size hq10'.out.arr (by omega) (by omega) (Nat.le_refl _) hBW (cell00 h1)
  have hkbl := (Array.getElem?_eq_some_iff.1 kb10'.out).1
  have hleW0 := hle010'.out.trans hBW
  have hwz := hle010'.out.size
  refine (wpIn_wide (n := 5)).1 ?_
  refine wpIn_rangeFunc_ownG rfl (by omega) (gf := 94) (lb := #[.pointer (some ⟨W10.heap.size + 1, 0, none⟩)]) rfl trivial (enters_of Try.func94 (by kernel_rfl) rfl)
    hyield Kept.trans (Kept.put (by omega) (by simp; omega)) (Below.refl _ _) (fun _ => rfl)
    (NearI W0 W10.heap.size W10.heap.size 3 [W10.heap.size + 1] N) (fun _ _ _ => False) (NearI.from _ _ _ _ _ _ _ (Nat.le_refl _) (by omega) (by omega) (by simp; omega)) (fun _ _ _ _ _ hs _ _ => hs)
    ⟨Kept.refl _ _ _, Nat.le_refl _, 0, h0, fun _ => by simp [nv]⟩ ?_ ?_ ?_ ?_ ?_
  rotate_left
  · intro l x9 W K hK
    dsimp only [backAt]
    gi_wp2
    exact hK
  · rintro l pre x9 W ⟨k1, k2, z, g5, g6⟩ hlen2
    have hx9 := x9.2
    obtain ⟨m, hm⟩ : ∃ m, (dg N).length - 1 - x9.1 = m := ⟨_, rfl⟩
    obtain ⟨g, hg⟩ : ∃ g, (dg N)[m]?.getD 0 = g := ⟨_, rfl⟩
    have hgB : g < 1000000000 := by
      rw [← hg, ← B9_eq, ← List.getD_eq_getElem?_getD]
      exact getD_lt (low_dg N) m
    have cR := cell00 g5
    have fR := frozen00 g5 0
    have hfin := fun aa => NearI.step (N0 := W0.heap.size) (x := x9) hfit k1 k2 g5 g6 m g hm hg (Nat.le_refl _) (by simp) aa
    rw [hm, hg]
    clear hyield k1 k2 g6 h0 h1
    have hg' := Lib.hid hg
    have hm' := Lib.hid hm
    have hfin' := Lib.hid hfin
    have g5' := Lib.hid g5
    clear g5 hfin hm hg
    gi_wp2
    exact hfin'.out _
  · rintro D ys W hD rfl ⟨k1, k2, z, g5, g6⟩ hDK
    have hz := g6 (finRange_pre _)
    rw [List.length_finRange, Nat.sub_self, List.drop_zero, nv_dg] at hz
    subst hz
    have cR := cell00 g5
    have kbW := ((Below.trans hBW k1.1).block _ hkbl).trans kb10'.out
    have hLe : Le w W := Below.trans hleW0 (k1.1.mono (by omega))
    clear e0 e1 e2
    obtain ⟨e0, e1, e2, -⟩ := cells3 kbW
    have hbN : (N : Int) ≤ 4611686018427387904 := by omega
    clear hyield k1 h0 h1 g6 g5 hBW hleW0
    have hDK' := Lib.hid hDK
    have hLe' := Lib.hid hLe
    have kbW' := Lib.hid kbW
    clear kbW hLe hDK
    go_wp2
    refine leaves_marks w.heap.size [{ target := .collected D, args := #[] }] _ ⟨⟨D, rfl, by omega, hDK'.out, by simp⟩, trivial⟩ fun w9 hb hkeep => ?_
    refine ⟨_, results_tmp rfl _ _ _, Below.trans hLe'.out hb, .inl ⟨by rw [hE'.out], ?_⟩⟩
    rw [hE'.out]
    rfl
  · rintro D cc9 pre W _ _ h _
    exact h.elim
end Go.Proofs.Ytemdemfknnkcaaa
