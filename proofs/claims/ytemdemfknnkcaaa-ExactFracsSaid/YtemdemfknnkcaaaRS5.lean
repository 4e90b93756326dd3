/- reference 1: Sub. reference 1: Rounded. reference 1: Nearest. -/
import Derived.Test.YtemdemfknnkcaaaRS4
import Derived.Test.YtemdemfknnkcaaaMonoR
namespace Go.Proofs.Ytemdemfknnkcaaa
open Go.RowKit Go.Shelf
set_option linter.unusedVariables false
set_option linter.unusedSimpArgs false
def codeR : Except Int Rat → Int
  | .ok _ => 0
  | .error x => x
theorem IsRes.code {L : Nat → Prop} {w : World} {v : Value} {c : Int} {res : Except Int Rat} (h : IsRes L w v c res) : c = codeR res := by
  cases res with
  | ok r => exact h.2
  | error x => exact h.2
def MPred.resT (L : Nat → Prop) (res : Except Int Rat) : MPred := ⟨fun v w => ∃ v', v = .tuple #[v', .int .i64 (codeR res)] ∧ IsRes L w v' (codeR res) res, fun _ _ _ hb ⟨v', e, h⟩ => ⟨v', e, h.le hb⟩⟩
def MPred.resV (L : Nat → Prop) (res : Except Int Rat) : MPred := ⟨fun v w => IsRes L w v (codeR res) res, fun _ _ _ hb h => h.le hb⟩
set_option maxRecDepth 100000 in
set_option maxHeartbeats 4000000 in
theorem pf_n_Sub (L L2 : Nat → Prop) (x y : FracA) (va vb : Value) (w : World) (hL : Up w L) (h1 : IsFracA L2 w va x) (h2 : IsFracA L2 w vb y) :
    Calls Try.prog 21 #[va, vb] w (ResPost L (opR (fun a b => outR (a - b)) x y) w) := by
  have hx0 := h1
  have hy0 := h2
  obtain ⟨A, c, B, d, rfl, p1, p2⟩ := h1
  obtain ⟨A2, c2, B2, d2, rfl, q1, q2⟩ := h2
  obtain ⟨W0, hW0, hsz, hle, k0, k1, k2⟩ := new3_le w (.cells #[.bool x.sn, .slice A x.gn.length c, .bool x.sd, .slice B x.gd.length d] 26) (.cells #[.bool y.sn, .slice A2 y.gn.length c2, .bool y.sd, .slice B2 y.gd.length d2] 26) (.cells #[.bool false, .slice none 0 0, .bool false, .slice none 0 0] 26)
  have r1 := pf_n_both L L2 x y _ _ W0 (hL.le hle) (hx0.le hle) (hy0.le hle)
  obtain ⟨z0, z1, z2, z3⟩ := cells4 k0
  obtain ⟨y0, y1, y2, y3⟩ := cells4 k1
  have hL' := Lib.hid hL
  have hx0' := Lib.hid hx0
  have hy0' := Lib.hid hy0
  have p1' := Lib.hid p1
  have p2' := Lib.hid p2
  have q1' := Lib.hid q1
  have q2' := Lib.hid q2
  have hle' := Lib.hid hle
  have k0' := Lib.hid k0
  have k1' := Lib.hid k1
  have k2' := Lib.hid k2
  have r1' := Lib.hid r1
  clear r1 k2 k1 k0 hle q2 q1 p2 p1 hy0 hx0 hL
  go_enter Try.func21, Try.ntmps21
  go_wp2_with (fail)
  clear hW0
  go_at_call 38
  refine r1'.out.mono ?_
  rintro e W1 ⟨hle1, v1, v2, rfl, ⟨s1, Q1, n1, e1, Q2, n2, e2, rfl⟩, ⟨s2, Q3, n3, e3, Q4, n4, e4, rfl⟩, hrx, hry⟩
  obtain ⟨bb, hbb⟩ : ∃ bb, (okA x && okA y) = bb := ⟨_, rfl⟩
  rw [hbb]
  clear z0 z1 z2 z3 y0 y1 y2 y3 r1'
  obtain ⟨W2, hW2, hsz2, hle2, kx, ky⟩ := new2_le W1 (.cells #[.bool s1, .slice Q1 n1 e1, .slice Q2 n2 e2] 65) (.cells #[.bool s2, .slice Q3 n3 e3, .slice Q4 n4 e4] 65)
  have hl12 := hle1.trans hle2
  have hall := hle'.out.trans hl12
  obtain ⟨x0, x1, x2, -⟩ := cells3 kx
  obtain ⟨y0, y1, y2, -⟩ := cells3 ky
  have hU2 := hL'.out.le hall
  have k2b := (hl12.block _ (by omega)).trans k2'.out
  obtain ⟨f0, f1, f2, f3⟩ := cells4 k2b
  have g0 := frozen00 k2b 0
  have g1 := frozen00 k2b 1
  have g2 := frozen00 k2b 2
  have g3 := frozen00 k2b 3
  have hle1' := Lib.hid hle1
  have hle2' := Lib.hid hle2
  have hl12' := Lib.hid hl12
  have hall' := Lib.hid hall
  have kx' := Lib.hid kx
  have ky' := Lib.hid ky
  have hU2' := Lib.hid hU2
  have hrx' := Lib.hid hrx
  have hry' := Lib.hid hry
  have hbb' := Lib.hid hbb
  have k2b' := Lib.hid k2b
  clear k2b hbb hry hrx hU2 ky kx hall hl12 hle2 hle1
  cases bb with
  | false =>
    have hno := opR_none (f := fun a b => outR (a - b)) hbb'.out
    have hno' := Lib.hid hno
    clear hno
    have hle9 := fun u0 u1 u2 u3 => le_set4 (u0 := u0) (u1 := u1) (u2 := u2) (u3 := u3) hall'.out (show w.heap.size ≤ w.heap.size + 1 + 1 by omega)
    have hb9 := fun u0 u1 u2 u3 => cells4 (heap_set4 (u0 := u0) (u1 := u1) (u2 := u2) (u3 := u3) k2b'.out)
    have hle9' := Lib.hid hle9
    have hb9' := Lib.hid hb9
    clear hb9 hle9
    go_wp2
    obtain ⟨d0, d1, d2, d3⟩ := hb9'.out (.bool false) (.slice none 0 0) (.bool false) (.slice none 0 0)
    exact bodyPost_ret (v := .tuple #[zeroF, .int .i64 10]) (by simp [results, Try.results21, go_sem, d0, d1, d2, d3, zeroF]) rfl ⟨hle9'.out _ _ _ _, _, _, rfl, by rw [hno'.out]; exact ⟨rfl, rfl⟩⟩
  | true =>
    obtain ⟨a, b, ha, hb⟩ := okA_both hbb'.out
    have hra := (hrx'.out a ha).le hle2'.out
    have hrb := (hry'.out b hb).le hle2'.out
    have hsa := FracA.sz ha
    have hsb := FracA.sz hb
    have ha' := Lib.hid ha
    have hb' := Lib.hid hb
    have hra' := Lib.hid hra
    have hrb' := Lib.hid hrb
    have hsa' := Lib.hid hsa
    have hsb' := Lib.hid hsb
    clear hsb hsa hrb hra hb ha
    have hop := opR_some (f := fun a b => outR (a - b)) ha'.out hb'.out
    obtain ⟨res, hres⟩ : ∃ res, outR (a - b) = res := ⟨_, rfl⟩
    rw [hres] at hop
    have hsub : a + -b = a - b := (Rat.sub_eq_add_neg a b).symm
    have hxl := (Array.getElem?_eq_some_iff.1 kx'.out).1
    have hyl := (Array.getElem?_eq_some_iff.1 ky'.out).1
    have hbl := (Array.getElem?_eq_some_iff.1 k2b'.out).1
    have hop' := Lib.hid hop
    have hsub' := Lib.hid hsub
    have hres' := Lib.hid hres
    clear hres hsub hop
    go_wp2_with (fail)
    refine wp_region_monoT (R := leRel) 7 [some 19, some 20, some 21, some 22, some 23, some 24, some 25, none, some 5] [[], [], [1], [0, 2], [3], [4], [4], [5], [6]]
      [.eq (.agg #[.bool s1, .slice Q1 n1 e1, .slice Q2 n2 e2]), .eq (.agg #[.bool s2, .slice Q3 n3 e3, .slice Q4 n4 e4]), MPred.rat L .i64 (-b), MPred.rat L .i64 (a - b), MPred.resT L res, MPred.resV L res, .eq (.int .i64 (codeR res))] (fun _ _ => False) (by kernel_rfl) (by kernel_rfl) (by kernel_rfl) (by kernel_rfl) (by kernel_rfl) ?_ (fun _ _ _ _ h => h.elim) ?_
    · simp only [List.take_succ_cons, List.take_zero]
      refine stepsM_cons rfl ?_ (stepsM_cons rfl ?_ (stepsM_cons rfl ?_ (stepsM_cons rfl ?_ (stepsM_cons rfl ?_ (stepsM_cons rfl ?_ (stepsM_cons rfl ?_ (stepsG_nil)))))))
      · intro x' W hR hf Q hK _
        have cc0 := (Below.cell hR (p := ⟨W1.heap.size, 0, none⟩) (by show W1.heap.size < W2.heap.size; omega)).trans x0
        have cc1 := (Below.cell hR (p := ⟨W1.heap.size, 1, none⟩) (by show W1.heap.size < W2.heap.size; omega)).trans x1
        have cc2 := (Below.cell hR (p := ⟨W1.heap.size, 2, none⟩) (by show W1.heap.size < W2.heap.size; omega)).trans x2
        simp only [fillAct, List.getD_cons_succ, List.getD_cons_zero, Act.put, List.setIfInBounds_toArray, List.set_cons_succ, List.set_cons_zero] at hK ⊢
        go_wp2
        exact hK _ _ (leRel.refl _) rfl
      · intro x' W hR hf Q hK _
        have cc0 := (Below.cell hR (p := ⟨W1.heap.size + 1, 0, none⟩) (by show W1.heap.size + 1 < W2.heap.size; omega)).trans y0
        have cc1 := (Below.cell hR (p := ⟨W1.heap.size + 1, 1, none⟩) (by show W1.heap.size + 1 < W2.heap.size; omega)).trans y1
        have cc2 := (Below.cell hR (p := ⟨W1.heap.size + 1, 2, none⟩) (by show W1.heap.size + 1 < W2.heap.size; omega)).trans y2
        simp only [fillAct, List.getD_cons_succ, List.getD_cons_zero, Act.put, List.setIfInBounds_toArray, List.set_cons_succ, List.set_cons_zero] at hK ⊢
        go_wp2
        exact hK _ _ (leRel.refl _) rfl
      · intro x' W hR hf Q hK _
        obtain ⟨e0, -⟩ := hf
        change _ = _ at e0
        simp only [fillAct, List.getD_cons_succ, List.getD_cons_zero, Act.put, List.setIfInBounds_toArray, List.set_cons_succ, List.set_cons_zero, e0] at hK ⊢
        go_wp2_with (fail)
        go_at_call 63
        refine (pf_n_opposite L b _ W (hrb'.out.le hR)).mono ?_
        rintro e w' ⟨v', rfl, y1, y2⟩
        obtain ⟨A1, c1, A2, c2, rfl, -, -⟩ := y2.form
        go_wp2
        exact hK _ _ y1 y2
      · intro x' W hR hf Q hK _
        obtain ⟨e0, e1, -⟩ := hf
        change _ = _ at e0
        replace e1 : RatL L .i64 W (x' 2) (-b) := e1
        simp only [fillAct, List.getD_cons_succ, List.getD_cons_zero, Act.put, List.setIfInBounds_toArray, List.set_cons_succ, List.set_cons_zero, e0] at hK ⊢
        go_wp2_with (fail)
        go_at_call 62
        refine (pf_q_plus L a (-b) _ _ W (hU2'.out.le hR) (hra'.out.le hR) e1 (hsa'.out.up (by decide)) (rsz_neg (hsb'.out.up (by decide)))).mono ?_
        rintro e w' ⟨v', rfl, y1, y2⟩
        rw [hsub'.out] at y2
        obtain ⟨A1, c1, A2, c2, rfl, -, -⟩ := y2.form
        go_wp2
        exact hK _ _ y1 y2
      · intro x' W hR hf Q hK _
        obtain ⟨e1, -⟩ := hf
        replace e1 : RatL L .i64 W (x' 3) (a - b) := e1
        simp only [fillAct, List.getD_cons_succ, List.getD_cons_zero, Act.put, List.setIfInBounds_toArray, List.set_cons_succ, List.set_cons_zero] at hK ⊢
        go_wp2_with (fail)
        go_at_call 55
        refine (pf_n_Out L L (a - b) _ W (hU2'.out.le hR) e1).mono ?_
        rintro e w' hout
        obtain ⟨y1, v', c', rfl, y2⟩ := hout.res
        rw [hres'.out] at y2
        obtain rfl := y2.code
        obtain ⟨s5, A5, n5, c5, s6, A6, n6, c6, rfl⟩ := y2.form
        have hout' := Lib.hid hout
        clear hout
        go_wp2
        exact hK _ _ y1 ⟨_, rfl, y2⟩
      · intro x' W hR hf Q hK _
        obtain ⟨e1, -⟩ := hf
        obtain ⟨v', k1, y2⟩ := e1
        replace k1 : x' 4 = _ := k1
        obtain ⟨s5, A5, n5, c5, s6, A6, n6, c6, rfl⟩ := y2.form
        simp only [fillAct, List.getD_cons_succ, List.getD_cons_zero, Act.put, List.setIfInBounds_toArray, List.set_cons_succ, List.set_cons_zero, k1] at hK ⊢
        go_wp2
        exact hK _ _ (leRel.refl _) y2
      · intro x' W hR hf Q hK _
        obtain ⟨e1, -⟩ := hf
        obtain ⟨v', k1, y2⟩ := e1
        replace k1 : x' 4 = _ := k1
        simp only [fillAct, List.getD_cons_succ, List.getD_cons_zero, Act.put, List.setIfInBounds_toArray, List.set_cons_succ, List.set_cons_zero, k1] at hK ⊢
        go_wp2
        exact hK _ _ (leRel.refl _) rfl
    · intro x' W hR hf Q' hQ1 _
      have e0 := hf 0 (by decide)
      have e1 := hf 1 (by decide)
      have e6 := hf 6 (by decide)
      have e5 : IsRes L W (x' 5) (codeR res) res := hf 5 (by decide)
      change _ = _ at e0 e1 e6
      obtain ⟨s5, A5, n5, c5, s6, A6, n6, c6, e7⟩ := e5.form
      rw [e7] at e5
      simp only [List.drop_succ_cons, List.drop_zero]
      rw [show List.range 7 = [0, 1, 2, 3, 4, 5, 6] from rfl]
      simp only [fillAct, List.getD_cons_succ, List.getD_cons_zero, Act.put, List.setIfInBounds_toArray, List.set_cons_succ, List.set_cons_zero, e0, e1, e6, e7]
      generalize x' 2 = x2
      generalize x' 3 = x3
      generalize x' 4 = x4
      clear e0 e1 e6 hf f0 f1 f2 f3 g0 g1 g2 g3
      have k2d := (hR.block _ hbl).trans k2b'.out
      have hle9 := fun u0 u1 u2 u3 => le_set4 (u0 := u0) (u1 := u1) (u2 := u2) (u3 := u3) (hall'.out.trans hR) (show w.heap.size ≤ w.heap.size + 1 + 1 by omega)
      have hb9 := fun u0 u1 u2 u3 => cells4 (heap_set4 (u0 := u0) (u1 := u1) (u2 := u2) (u3 := u3) k2d)
      have hfin := fun u0 u1 u2 u3 => IsRes.box4 (u0 := u0) (u1 := u1) (u2 := u2) (u3 := u3) e5 k2d
      obtain ⟨f0, f1, f2, f3⟩ := cells4 k2d
      have g0 := frozen00 k2d 0
      have g1 := frozen00 k2d 1
      have g2 := frozen00 k2d 2
      have g3 := frozen00 k2d 3
      have e5' := Lib.hid e5
      have e7' := Lib.hid e7
      have k2d' := Lib.hid k2d
      have hle9' := Lib.hid hle9
      have hb9' := Lib.hid hb9
      have hfin' := Lib.hid hfin
      have hR' := Lib.hid hR
      clear hR hfin hb9 hle9 k2d e7 e5
      go_wp2
      refine hQ1 _ _ ?_
      go_wp2
      obtain ⟨d0, d1, d2, d3⟩ := hb9'.out (.bool s5) (.slice A5 n5 c5) (.bool s6) (.slice A6 n6 c6)
      exact bodyPost_ret (v := .tuple #[.agg #[.bool s5, .slice A5 n5 c5, .bool s6, .slice A6 n6 c6], .int .i64 (codeR res)]) (by simp [results, Try.results21, go_sem, d0, d1, d2, d3]) rfl ⟨hle9'.out _ _ _ _, _, _, rfl, by rw [hop'.out]; exact hfin'.out _ _ _ _⟩
end Go.Proofs.Ytemdemfknnkcaaa
namespace Go.Proofs.Ytemdemfknnkcaaa
open Go.RowKit Go.Shelf
set_option linter.unusedVariables false
set_option linter.unusedSimpArgs false
noncomputable def halfR : Rat := ((1 : Int) : Rat) / ((2 : Int) : Rat)
theorem halfR_mk : mkR false 1 2 = halfR := by
  have h := over_int 1 2 (by decide)
  unfold halfR
  rw [← h]
  rfl
theorem halfR_parts : rneg halfR = false ∧ rnum halfR = 1 ∧ halfR.den = 2 := by
  rw [← halfR_mk]
  refine ⟨?_, ?_, ?_⟩
  · rw [mkR_neg _ _ _ (by decide)]; rfl
  · rw [mkR_num _ _ _ (by decide)]; decide
  · rw [mkR_den _ _ _ (by decide)]; decide
theorem halfR_sz : Rsz halfR 3 := by
  obtain ⟨-, h2, h3⟩ := halfR_parts
  exact ⟨by rw [h2]; exact dg_u64 (by omega), by rw [h3]; exact dg_u64 (by omega)⟩
/-- The number nearest to a fraction, without its sign. -/
noncomputable def nearQ (r : Rat) : Nat := rnum (r + halfR) / (r + halfR).den + (if rneg (r + halfR) = true ∧ rnum (r + halfR) % (r + halfR).den ≠ 0 then 1 else 0)
noncomputable def nearV (r : Rat) : Int := if nearQ r ≤ 4611686018427387904 then sg (rneg (r + halfR)) (nearQ r) else 0
noncomputable def nearFits (r : Rat) : Bool := decide (nearQ r ≤ 4611686018427387904)
noncomputable def nearE (x : FracA) : Int × Int :=
  match x.rat? with
  | some r => if nearFits r then (nearV r, 0) else (0, 12)
  | none => (0, 10)
/-- A number of at most three groups, out of its groups. -/
theorem dg_three {q : Nat} (h : q ≤ 4611686018427387904) : ∃ g0 g1 g2 : Nat, (dg q).getD 0 0 = g0 ∧ (dg q).getD 1 0 = g1 ∧ (dg q).getD 2 0 = g2 ∧ g0 < 1000000000 ∧ g1 < 1000000000 ∧ g2 ≤ 4 ∧ g0 + 1000000000 * g1 + 1000000000000000000 * g2 = q := by
  have hB := B9_eq
  have hl : (dg q).length ≤ 3 := dg_u64 (by omega)
  have hv := nv_dg q
  have hlow := low_dg q
  refine ⟨_, _, _, rfl, rfl, rfl, by rw [← hB]; exact getD_lt hlow _, by rw [← hB]; exact getD_lt hlow _, ?_, ?_⟩
  · match e : dg q, hl with
    | [], _ => simp
    | [a], _ => simp
    | [a, b], _ => simp
    | [a, b, c], _ => rw [e] at hv; simp only [nv, hB] at hv; simp; omega
  · match e : dg q, hl with
    | [], _ => rw [e] at hv; simp only [nv] at hv; simp; omega
    | [a], _ => rw [e] at hv; simp only [nv, hB] at hv; simp; omega
    | [a, b], _ => rw [e] at hv; simp only [nv, hB] at hv; simp; omega
    | [a, b, c], _ => rw [e] at hv; simp only [nv, hB] at hv; simp; omega
def MPred.box (B : Nat) (o : Obj) : MPred := ⟨fun v w => ∃ k, v = .pointer (some ⟨k, 0, none⟩) ∧ B ≤ k ∧ w.heap[k]? = some o, fun _ _ _ hb ⟨k, e, h1, h2⟩ => ⟨k, e, h1, (hb.block k (Array.getElem?_eq_some_iff.1 h2).1).trans h2⟩⟩
set_option maxRecDepth 100000 in
set_option maxHeartbeats 4000000 in
theorem pf_n_Rounded (L : Nat → Prop) (r : Rat) (v : Value) (w : World) (hL : Up w L) (hr : RatL L .i64 w v r) (hsz0 : Rsz r 1000) :
    Calls Try.prog 49 #[v] w fun e w' => e = .returned (.tuple #[.int .i64 (nearV r), .bool (nearFits r)]) ∧ Le w w' := by
  have hr0 := hr
  obtain ⟨An, cn, Ad, cd, rfl, han, had⟩ := hr.form
  obtain ⟨sr, hsr⟩ : ∃ sr, rneg r = sr := ⟨_, rfl⟩
  rw [hsr] at hr0 ⊢
  obtain ⟨b, hb⟩ : ∃ b, r + halfR = b := ⟨_, rfl⟩
  have hbs : Rsz b 2001 := by rw [← hb]; exact rsz_add hsz0 (halfR_sz.up (by decide))
  obtain ⟨sb, hsb⟩ : ∃ sb, rneg b = sb := ⟨_, rfl⟩
  obtain ⟨nvv, hnv⟩ : ∃ nvv, nearV r = nvv := ⟨_, rfl⟩
  obtain ⟨nf, hnf⟩ : ∃ nf, nearFits r = nf := ⟨_, rfl⟩
  rw [hnv, hnf]
  obtain ⟨W0, hW0, hle, k0⟩ : ∃ W0, w.alloc (.cells #[.bool sr, .slice An (dg (rnum r)).length cn, .slice Ad (dg r.den).length cd] 65) = W0 ∧ Le w W0 ∧ W0.heap[w.heap.size]? = some (.cells #[.bool sr, .slice An (dg (rnum r)).length cn, .slice Ad (dg r.den).length cd] 65) := ⟨_, rfl, le_alloc _ _, by unfold World.alloc; exact Array.getElem?_push_size⟩
  obtain ⟨ca0, ca1, ca2, -⟩ := cells3 k0
  have hl0 := (Array.getElem?_eq_some_iff.1 k0).1
  have hU0 := hL.le hle
  have hr1 := hr0.le hle
  have hL' := Lib.hid hL
  have hr' := Lib.hid hr
  have han' := Lib.hid han
  have had' := Lib.hid had
  have hsr' := Lib.hid hsr
  have hr0' := Lib.hid hr0
  have hsz0' := Lib.hid hsz0
  have hb' := Lib.hid hb
  have hbs' := Lib.hid hbs
  have hsb' := Lib.hid hsb
  have hnv' := Lib.hid hnv
  have hnf' := Lib.hid hnf
  have hle' := Lib.hid hle
  have k0' := Lib.hid k0
  have hU0' := Lib.hid hU0
  have hr1' := Lib.hid hr1
  clear hr1 hU0 k0 hle hnf hnv hsb hbs hb hsz0 hr0 hsr had han hr hL
  go_enter Try.func49, Try.ntmps49
  go_wp2_with (fail)
  clear hW0
  refine wp_region_monoT (R := leRel) 4 [some 8, some 9, some 10, some 4, none] [[], [], [0, 1], [], [2, 3]]
    [.eq (.agg #[.bool sr, .slice An (dg (rnum r)).length cn, .slice Ad (dg r.den).length cd]), MPred.rat L .i64 halfR, MPred.rat L .i64 b, MPred.box W0.heap.size (.cells #[.bool false, .slice none 0 0, .slice none 0 0] 65)] (fun _ _ => False) (by kernel_rfl) (by kernel_rfl) (by kernel_rfl) (by kernel_rfl) (by kernel_rfl) ?_ (fun _ _ _ _ h => h.elim) ?_
  · simp only [List.take_succ_cons, List.take_zero]
    refine stepsM_cons rfl ?_ (stepsM_cons rfl ?_ (stepsM_cons rfl ?_ (stepsM_cons rfl ?_ (stepsG_nil))))
    · intro x W hR hf Q hK _
      have cc0 := (Below.cell hR (p := ⟨w.heap.size, 0, none⟩) (by show w.heap.size < W0.heap.size; omega)).trans ca0
      have cc1 := (Below.cell hR (p := ⟨w.heap.size, 1, none⟩) (by show w.heap.size < W0.heap.size; omega)).trans ca1
      have cc2 := (Below.cell hR (p := ⟨w.heap.size, 2, none⟩) (by show w.heap.size < W0.heap.size; omega)).trans ca2
      simp only [fillAct, List.getD_cons_succ, List.getD_cons_zero, Act.put, List.setIfInBounds_toArray, List.set_cons_succ, List.set_cons_zero] at hK ⊢
      go_wp2
      exact hK _ _ (leRel.refl _) rfl
    · intro x W hR hf Q hK _
      simp only [fillAct, List.getD_cons_succ, List.getD_cons_zero, Act.put, List.setIfInBounds_toArray, List.set_cons_succ, List.set_cons_zero] at hK ⊢
      go_wp2_with (fail)
      go_at_call 56
      refine (pf_n_Over L 1 2 W (hU0'.out.le hR) (by decide) (by decide) (by decide) (by decide) (by decide)).mono ?_
      rintro e w' ⟨v', rfl, y1, y2⟩
      obtain ⟨A1, c1, A2, c2, rfl, -, -⟩ := y2.form
      go_wp2
      exact hK _ _ y1 y2
    · intro x W hR hf Q hK _
      obtain ⟨e0, e1, -⟩ := hf
      change _ = _ at e0
      replace e1 : RatL L .i64 W (x 1) halfR := e1
      simp only [fillAct, List.getD_cons_succ, List.getD_cons_zero, Act.put, List.setIfInBounds_toArray, List.set_cons_succ, List.set_cons_zero, e0] at hK ⊢
      go_wp2_with (fail)
      go_at_call 62
      refine (pf_q_plus L r halfR _ _ W (hU0'.out.le hR) (hr1'.out.le hR) e1 (hsz0'.out.up (by decide)) (halfR_sz.up (by decide))).mono ?_
      rintro e w' ⟨v', rfl, y1, y2⟩
      rw [hb'.out] at y2
      obtain ⟨A1, c1, A2, c2, rfl, -, -⟩ := y2.form
      go_wp2
      exact hK _ _ y1 y2
    · intro x W hR hf Q hK _
      simp only [fillAct, List.getD_cons_succ, List.getD_cons_zero, Act.put, List.setIfInBounds_toArray, List.set_cons_succ, List.set_cons_zero] at hK ⊢
      have hs9 := hR.size
      go_wp2
      exact hK _ _ (le_alloc _ _) ⟨_, rfl, hs9, by unfold World.alloc; exact Array.getElem?_push_size⟩
  · intro x W hR hf Q' hQ1 _
    have e0 := hf 0 (by decide)
    change _ = _ at e0
    have e2 : RatL L .i64 W (x 2) b := hf 2 (by decide)
    obtain ⟨k, e3, hk1, hk2⟩ := hf 3 (by decide)
    replace e3 : x 3 = _ := e3
    obtain ⟨Bn, dn, Bd, dd, e4, hbn, hbd⟩ := e2.form
    rw [hsb'.out] at e4
    simp only [List.drop_succ_cons, List.drop_zero]
    rw [show List.range 4 = [0, 1, 2, 3] from rfl]
    simp only [fillAct, List.getD_cons_succ, List.getD_cons_zero, Act.put, List.setIfInBounds_toArray, List.set_cons_succ, List.set_cons_zero, e0, e3, e4]
    generalize x 1 = x1
    clear e0 e2 e3 e4 hf
    obtain ⟨z0, z1, z2, f0, f1, f2⟩ := cells3 hk2
    obtain ⟨V, hV, hleV, kV, hnV, hdV⟩ : ∃ V, ((W.setCell ⟨k, 0, none⟩ (.bool sb)).setCell ⟨k, 1, none⟩ (.slice Bn (dg (rnum b)).length dn)).setCell ⟨k, 2, none⟩ (.slice Bd (dg b.den).length dd) = V ∧ Le w V ∧ V.heap[k]? = some (.cells #[.bool sb, .slice Bn (dg (rnum b)).length dn, .slice Bd (dg b.den).length dd] 65) ∧ NumL L .i64 V (.slice Bn (dg (rnum b)).length dn) (rnum b) ∧ NumL L .i64 V (.slice Bd (dg b.den).length dd) b.den :=
      ⟨_, rfl, le_set3 (hle'.out.trans hR) (by have := hle'.out.size; omega), heap_set3 hk2, NumL.box3 hbn hk2, NumL.box3 hbd hk2⟩
    obtain ⟨d0, d1, d2, -⟩ := cells3 kV
    have hUV := hL'.out.le hleV
    have hlV := (Array.getElem?_eq_some_iff.1 kV).1
    have hR' := Lib.hid hR
    have hbn' := Lib.hid hbn
    have hbd' := Lib.hid hbd
    have hk2' := Lib.hid hk2
    have hleV' := Lib.hid hleV
    have kV' := Lib.hid kV
    have hnV' := Lib.hid hnV
    have hdV' := Lib.hid hdV
    have hUV' := Lib.hid hUV
    clear hUV hdV hnV kV hleV hk2 hbd hbn hR
    go_wp2
    clear z0 z1 z2 f0 f1 f2
    refine hQ1 _ _ ?_
    clear hV
    have ms1 := hbs'.out.1
    have ms2 := hbs'.out.2
    have hd0 := Nat.ne_of_gt (rden_pos b)
    go_wp2_with (fail)
    go_at_call 98
    refine (pf_n_parts L (rnum b) b.den _ _ V hUV'.out hnV'.out hdV'.out (by omega) (by omega) hd0).mono ?_
    rintro e V1 ⟨v1, v2, rfl, hle1, hq, hrm⟩
    obtain ⟨Aq, cq, rfl⟩ := hq.slice
    obtain ⟨Ar, cr, rfl⟩ := hrm.slice
    have kV1 := (hle1.block k (by omega)).trans kV'.out
    clear d0 d1 d2
    obtain ⟨d0, d1, d2, -⟩ := cells3 kV1
    have hlq : (dg (rnum b / b.den)).length ≤ 2001 := Nat.le_trans (dg_length_mono (Nat.div_le_self _ _)) ms1
    have hqN : nearQ r = rnum b / b.den + (if sb = true ∧ rnum b % b.den ≠ 0 then 1 else 0) := by unfold nearQ; rw [hb'.out, hsb'.out]
    have hvV : nvv = if nearQ r ≤ 4611686018427387904 then sg sb (nearQ r) else 0 := by rw [← hnv'.out]; unfold nearV; rw [hb'.out, hsb'.out]
    have hfF : nf = decide (nearQ r ≤ 4611686018427387904) := by rw [← hnf'.out]; rfl
    obtain ⟨q0, hq0⟩ : ∃ q0, rnum b / b.den = q0 := ⟨_, rfl⟩
    obtain ⟨m0, hm0⟩ : ∃ m0, rnum b % b.den = m0 := ⟨_, rfl⟩
    rw [hq0] at hq hlq hqN ⊢
    rw [hm0] at hrm hqN ⊢
    obtain ⟨N, hN⟩ : ∃ N, nearQ r = N := ⟨_, rfl⟩
    rw [hN] at hqN hvV hfF
    have hU1 := hUV'.out.le hle1
    have hleT := hleV'.out.trans hle1
    clear ms1 ms2 hd0
    have hle1' := Lib.hid hle1
    have hq' := Lib.hid hq
    have hrm' := Lib.hid hrm
    have kV1' := Lib.hid kV1
    have hlq' := Lib.hid hlq
    have hq0' := Lib.hid hq0
    have hm0' := Lib.hid hm0
    have hN' := Lib.hid hN
    have hU1' := Lib.hid hU1
    have hleT' := Lib.hid hleT
    have hvV' := Lib.hid hvV
    have hfF' := Lib.hid hfF
    clear hfF hvV hleT hU1 hN hm0 hq0 hlq kV1 hrm hq hle1
    have hkey : (∃ (V2 : World) (A2 : Option Addr) (c2 : Nat), Le V1 V2 ∧ NumL L .i64 V2 (.slice A2 (dg N).length c2) N) → True := fun _ => trivial
    clear hkey
    by_cases hc : sb = true ∧ m0 ≠ 0
    · obtain ⟨rfl, hm⟩ := hc
      have hN1 : q0 + 1 = N := by rw [hqN, if_pos ⟨rfl, hm⟩]
      have hl1 : 0 < ((dg m0).length : Int) := by have := dg_length_pos.2 hm; omega
      have hl2 : 0 < (dg m0).length := dg_length_pos.2 hm
      clear hqN hm
      have hN1' := Lib.hid hN1
      clear hN1
      go_wp2_with (fail)
      go_at_call 99
      refine (pf_n_plus L q0 1 _ _ _ (hU1'.out.le (le_alloc _ _)) (hq'.out.le (le_alloc _ _)) (numL_newg (g := 1) hU1'.out (by omega) dg_one_lt _) (by have := hlq'.out; omega) (by rw [dg_one]; simp)).mono ?_
      rintro e V2 ⟨v3, rfl, hle2, hs⟩
      rw [hN1'.out] at hs
      obtain ⟨A2, c2, rfl⟩ := hs.slice
      have hle12 := (le_alloc V1 _).trans hle2
      have kV2 := (hle12.block k (by have := (Array.getElem?_eq_some_iff.1 kV1'.out).1; omega)).trans kV1'.out
      have hU2 := hU1'.out.le hle12
      have hleT2 := hleT'.out.trans hle12
      clear d0 d1 d2 hl1 hl2 hU1' hleT' kV1'
      obtain ⟨d0, d1, d2, -⟩ := cells3 kV2
      have hle2' := Lib.hid hle2
      have hs' := Lib.hid hs
      have hle12' := Lib.hid hle12
      have kV2' := Lib.hid kV2
      have hU2' := Lib.hid hU2
      have hleT2' := Lib.hid hleT2
      clear hleT2 hU2 kV2 hle12 hs hle2
      go_wp2_with (fail)
      go_at_call 100
      refine (pf_n_absolute L 4611686018427387904 _ hU2'.out (by decide) (by decide)).mono ?_
      rintro e V3 ⟨v4, rfl, hle3, hfar⟩
      rw [show Int.natAbs 4611686018427387904 = 4611686018427387904 from rfl] at hfar
      obtain ⟨Af, cf, rfl⟩ := hfar.slice
      have hs3 := hs'.out.le hle3
      have hle3' := Lib.hid hle3
      have hfar' := Lib.hid hfar
      have hs3' := Lib.hid hs3
      clear hs3 hfar hle3
      go_wp2_with (fail)
      go_at_call 96
      refine (pf_n_order L L N 4611686018427387904 _ _ V3 hs3'.out hfar'.out).mono ?_
      rintro e w' ⟨rfl, nd, rfl⟩
      obtain ⟨V4, hV4⟩ : ∃ V4, V3.drewN nd = V4 := ⟨_, rfl⟩
      rw [hV4]
      have hle4 : Le V3 V4 := by rw [← hV4]; exact Le.quiet nd
      have hs4 := hs3'.out.le hle4
      have hle34 := hle3'.out.trans hle4
      have kV4 := (hle34.block k (by have := (Array.getElem?_eq_some_iff.1 kV2'.out).1; omega)).trans kV2'.out
      have hleT4 := hleT2'.out.trans hle34
      clear d0 d1 d2 hV4
      obtain ⟨d0, d1, d2, -⟩ := cells3 kV4
      obtain ⟨o, ho⟩ : ∃ o, ordI N 4611686018427387904 = o := ⟨_, rfl⟩
      rw [ho]
      have hle4' := Lib.hid hle4
      have hs4' := Lib.hid hs4
      have hle34' := Lib.hid hle34
      have kV4' := Lib.hid kV4
      have hleT4' := Lib.hid hleT4
      clear hleT4 kV4 hle34 hs4 hle4
      by_cases hbig : N ≤ 4611686018427387904
      · have ho1 : ¬ 0 < o := by rw [← ho]; unfold ordI; split <;> (try split) <;> omega
        obtain ⟨g0, g1, g2, j0, j1, j2, b0, b1, b2, hsum⟩ := dg_three hbig
        have hv9 : nvv = -(N : Int) := by rw [hvV'.out, if_pos hbig]; rfl
        have hf9 : nf = true := by rw [hfF'.out]; simpa using hbig
        subst hf9
        have c0 := pf_n_group L (dg N) 0 _ V4 hs4'.out (by omega)
        have c1 := pf_n_group L (dg N) 1 _ V4 hs4'.out (by omega)
        have c2 := pf_n_group L (dg N) 2 _ V4 hs4'.out (by omega)
        rw [j0] at c0
        rw [j1] at c1
        rw [j2] at c2
        have hsi : (g0 : Int) + 1000000000 * (g1 : Int) + 1000000000000000000 * (g2 : Int) = (N : Int) := by omega
        clear hbig
        have ho' := Lib.hid ho
        have j0' := Lib.hid j0
        have j1' := Lib.hid j1
        have j2' := Lib.hid j2
        have hsum' := Lib.hid hsum
        have hv9' := Lib.hid hv9
        have c0' := Lib.hid c0
        have c1' := Lib.hid c1
        have c2' := Lib.hid c2
        clear c2 c1 c0 hv9 hsum j2 j1 j0 ho
        go_wp2_with (fail)
        go_at_call 101
        refine c0'.out.mono ?_
        rintro e w' ⟨rfl, rfl⟩
        go_wp2_with (fail)
        go_at_call 101
        refine c1'.out.mono ?_
        rintro e w' ⟨rfl, rfl⟩
        go_wp2_with (fail)
        go_at_call 101
        refine c2'.out.mono ?_
        rintro e w' ⟨rfl, rfl⟩
        go_wp2
        go_ret2
        exact ⟨by rw [hv9'.out]; rfl, hleT4'.out⟩
      · have ho1 : 0 < o := by rw [← ho]; unfold ordI; split <;> (try split) <;> omega
        have hv9 : nvv = 0 := by rw [hvV'.out, if_neg hbig]
        have hf9 : nf = false := by rw [hfF'.out]; simpa using hbig
        subst hf9
        subst hv9
        clear hbig
        have ho' := Lib.hid ho
        clear ho
        go_wp2
        go_ret2
        exact ⟨rfl, hleT4'.out⟩
    · have hN1 : q0 = N := by rw [hqN, if_neg hc, Nat.add_zero]
      subst hN1
      clear hqN
      have hU2' := hU1'
      have hleT2' := hleT'
      have hs' := hq'
      have kV2' := kV1'
      cases sb with
      | false =>
        clear hc
        go_wp2_with (fail)
        go_at_call 100
        refine (pf_n_absolute L 4611686018427387904 _ hU2'.out (by decide) (by decide)).mono ?_
        rintro e V3 ⟨v4, rfl, hle3, hfar⟩
        rw [show Int.natAbs 4611686018427387904 = 4611686018427387904 from rfl] at hfar
        obtain ⟨Af, cf, rfl⟩ := hfar.slice
        have hs3 := hs'.out.le hle3
        have hle3' := Lib.hid hle3
        have hfar' := Lib.hid hfar
        have hs3' := Lib.hid hs3
        clear hs3 hfar hle3
        go_wp2_with (fail)
        go_at_call 96
        refine (pf_n_order L L q0 4611686018427387904 _ _ V3 hs3'.out hfar'.out).mono ?_
        rintro e w' ⟨rfl, nd, rfl⟩
        obtain ⟨V4, hV4⟩ : ∃ V4, V3.drewN nd = V4 := ⟨_, rfl⟩
        rw [hV4]
        have hle4 : Le V3 V4 := by rw [← hV4]; exact Le.quiet nd
        have hs4 := hs3'.out.le hle4
        have hle34 := hle3'.out.trans hle4
        have kV4 := (hle34.block k (by have := (Array.getElem?_eq_some_iff.1 kV2'.out).1; omega)).trans kV2'.out
        have hleT4 := hleT2'.out.trans hle34
        clear d0 d1 d2 hV4
        obtain ⟨d0, d1, d2, -⟩ := cells3 kV4
        obtain ⟨o, ho⟩ : ∃ o, ordI q0 4611686018427387904 = o := ⟨_, rfl⟩
        rw [ho]
        have hle4' := Lib.hid hle4
        have hs4' := Lib.hid hs4
        have hle34' := Lib.hid hle34
        have kV4' := Lib.hid kV4
        have hleT4' := Lib.hid hleT4
        clear hleT4 kV4 hle34 hs4 hle4
        by_cases hbig : q0 ≤ 4611686018427387904
        · have ho1 : ¬ 0 < o := by rw [← ho]; unfold ordI; split <;> (try split) <;> omega
          obtain ⟨g0, g1, g2, j0, j1, j2, b0, b1, b2, hsum⟩ := dg_three hbig
          have hv9 : nvv = (q0 : Int) := by rw [hvV'.out, if_pos hbig]; rfl
          have hf9 : nf = true := by rw [hfF'.out]; simpa using hbig
          subst hf9
          have c0 := pf_n_group L (dg q0) 0 _ V4 hs4'.out (by omega)
          have c1 := pf_n_group L (dg q0) 1 _ V4 hs4'.out (by omega)
          have c2 := pf_n_group L (dg q0) 2 _ V4 hs4'.out (by omega)
          rw [j0] at c0
          rw [j1] at c1
          rw [j2] at c2
          have hsi : (g0 : Int) + 1000000000 * (g1 : Int) + 1000000000000000000 * (g2 : Int) = (q0 : Int) := by omega
          clear hbig
          have ho' := Lib.hid ho
          have j0' := Lib.hid j0
          have j1' := Lib.hid j1
          have j2' := Lib.hid j2
          have hsum' := Lib.hid hsum
          have hv9' := Lib.hid hv9
          have c0' := Lib.hid c0
          have c1' := Lib.hid c1
          have c2' := Lib.hid c2
          clear c2 c1 c0 hv9 hsum j2 j1 j0 ho
          go_wp2_with (fail)
          go_at_call 101
          refine c0'.out.mono ?_
          rintro e w' ⟨rfl, rfl⟩
          go_wp2_with (fail)
          go_at_call 101
          refine c1'.out.mono ?_
          rintro e w' ⟨rfl, rfl⟩
          go_wp2_with (fail)
          go_at_call 101
          refine c2'.out.mono ?_
          rintro e w' ⟨rfl, rfl⟩
          go_wp2
          go_ret2
          exact ⟨by rw [hv9'.out]; rfl, hleT4'.out⟩
        · have ho1 : 0 < o := by rw [← ho]; unfold ordI; split <;> (try split) <;> omega
          have hv9 : nvv = 0 := by rw [hvV'.out, if_neg hbig]
          have hf9 : nf = false := by rw [hfF'.out]; simpa using hbig
          subst hf9
          subst hv9
          clear hbig
          have ho' := Lib.hid ho
          clear ho
          go_wp2
          go_ret2
          exact ⟨rfl, hleT4'.out⟩
      | true =>
        have hm : m0 = 0 := by
          by_cases h : m0 = 0
          · exact h
          · exact absurd ⟨rfl, h⟩ hc
        have hl1 : (dg m0).length = 0 := by rw [hm, dg_zero]; rfl
        rw [hl1]
        clear hc hm hl1
        go_wp2_with (fail)
        go_at_call 100
        refine (pf_n_absolute L 4611686018427387904 _ hU2'.out (by decide) (by decide)).mono ?_
        rintro e V3 ⟨v4, rfl, hle3, hfar⟩
        rw [show Int.natAbs 4611686018427387904 = 4611686018427387904 from rfl] at hfar
        obtain ⟨Af, cf, rfl⟩ := hfar.slice
        have hs3 := hs'.out.le hle3
        have hle3' := Lib.hid hle3
        have hfar' := Lib.hid hfar
        have hs3' := Lib.hid hs3
        clear hs3 hfar hle3
        go_wp2_with (fail)
        go_at_call 96
        refine (pf_n_order L L q0 4611686018427387904 _ _ V3 hs3'.out hfar'.out).mono ?_
        rintro e w' ⟨rfl, nd, rfl⟩
        obtain ⟨V4, hV4⟩ : ∃ V4, V3.drewN nd = V4 := ⟨_, rfl⟩
        rw [hV4]
        have hle4 : Le V3 V4 := by rw [← hV4]; exact Le.quiet nd
        have hs4 := hs3'.out.le hle4
        have hle34 := hle3'.out.trans hle4
        have kV4 := (hle34.block k (by have := (Array.getElem?_eq_some_iff.1 kV2'.out).1; omega)).trans kV2'.out
        have hleT4 := hleT2'.out.trans hle34
        clear d0 d1 d2 hV4
        obtain ⟨d0, d1, d2, -⟩ := cells3 kV4
        obtain ⟨o, ho⟩ : ∃ o, ordI q0 4611686018427387904 = o := ⟨_, rfl⟩
        rw [ho]
        have hle4' := Lib.hid hle4
        have hs4' := Lib.hid hs4
        have hle34' := Lib.hid hle34
        have kV4' := Lib.hid kV4
        have hleT4' := Lib.hid hleT4
        clear hleT4 kV4 hle34 hs4 hle4
        by_cases hbig : q0 ≤ 4611686018427387904
        · have ho1 : ¬ 0 < o := by rw [← ho]; unfold ordI; split <;> (try split) <;> omega
          obtain ⟨g0, g1, g2, j0, j1, j2, b0, b1, b2, hsum⟩ := dg_three hbig
          have hv9 : nvv = -(q0 : Int) := by rw [hvV'.out, if_pos hbig]; rfl
          have hf9 : nf = true := by rw [hfF'.out]; simpa using hbig
          subst hf9
          have c0 := pf_n_group L (dg q0) 0 _ V4 hs4'.out (by omega)
          have c1 := pf_n_group L (dg q0) 1 _ V4 hs4'.out (by omega)
          have c2 := pf_n_group L (dg q0) 2 _ V4 hs4'.out (by omega)
          rw [j0] at c0
          rw [j1] at c1
          rw [j2] at c2
          have hsi : (g0 : Int) + 1000000000 * (g1 : Int) + 1000000000000000000 * (g2 : Int) = (q0 : Int) := by omega
          clear hbig
          have ho' := Lib.hid ho
          have j0' := Lib.hid j0
          have j1' := Lib.hid j1
          have j2' := Lib.hid j2
          have hsum' := Lib.hid hsum
          have hv9' := Lib.hid hv9
          have c0' := Lib.hid c0
          have c1' := Lib.hid c1
          have c2' := Lib.hid c2
          clear c2 c1 c0 hv9 hsum j2 j1 j0 ho
          go_wp2_with (fail)
          go_at_call 101
          refine c0'.out.mono ?_
          rintro e w' ⟨rfl, rfl⟩
          go_wp2_with (fail)
          go_at_call 101
          refine c1'.out.mono ?_
          rintro e w' ⟨rfl, rfl⟩
          go_wp2_with (fail)
          go_at_call 101
          refine c2'.out.mono ?_
          rintro e w' ⟨rfl, rfl⟩
          go_wp2
          go_ret2
          exact ⟨by rw [hv9'.out]; rfl, hleT4'.out⟩
        · have ho1 : 0 < o := by rw [← ho]; unfold ordI; split <;> (try split) <;> omega
          have hv9 : nvv = 0 := by rw [hvV'.out, if_neg hbig]
          have hf9 : nf = false := by rw [hfF'.out]; simpa using hbig
          subst hf9
          subst hv9
          clear hbig
          have ho' := Lib.hid ho
          clear ho
          go_wp2
          go_ret2
          exact ⟨rfl, hleT4'.out⟩
end Go.Proofs.Ytemdemfknnkcaaa
namespace Go.Proofs.Ytemdemfknnkcaaa
open Go.RowKit Go.Shelf
set_option linter.unusedVariables false
set_option linter.unusedSimpArgs false
theorem nearE_none {x : FracA} (h : okA x = false) : nearE x = (0, 10) := by
  unfold nearE
  unfold okA at h
  cases h1 : x.rat? with
  | none => rfl
  | some a => rw [h1] at h; cases h
theorem nearE_some {x : FracA} {r : Rat} (h : x.rat? = some r) : nearE x = if nearFits r then (nearV r, 0) else (0, 12) := by unfold nearE; rw [h]
theorem okA_some {x : FracA} (h : okA x = true) : ∃ r, x.rat? = some r := by unfold okA at h; exact Option.isSome_iff_exists.1 h
set_option maxRecDepth 100000 in
set_option maxHeartbeats 2000000 in
theorem pf_n_Nearest (L L2 : Nat → Prop) (x : FracA) (v : Value) (w : World) (hL : Up w L) (h : IsFracA L2 w v x) :
    Calls Try.prog 10 #[v] w fun e w' => e = .returned (.tuple #[.int .i64 (nearE x).1, .int .i64 (nearE x).2]) ∧ Le w w' := by
  have h0 := h
  obtain ⟨A, c, B, d, rfl, p1, p2⟩ := h
  obtain ⟨b, hb⟩ : ∃ b, okA x = b := ⟨_, rfl⟩
  obtain ⟨n1, n2, hn⟩ : ∃ n1 n2, nearE x = (n1, n2) := ⟨_, _, rfl⟩
  rw [hn]
  have hle := le_alloc w (.cells #[.bool x.sn, .slice A x.gn.length c, .bool x.sd, .slice B x.gd.length d] 26)
  have r1 := pf_n_In L L2 x _ _ (hL.le hle) (h0.le hle)
  have hL' := Lib.hid hL
  have h0' := Lib.hid h0
  have p1' := Lib.hid p1
  have p2' := Lib.hid p2
  have hle' := Lib.hid hle
  have r1' := Lib.hid r1
  have hb' := Lib.hid hb
  have hn' := Lib.hid hn
  clear hn hb r1 hle p2 p1 h0 hL
  go_enter Try.func10, Try.ntmps10
  go_wp2_with (fail)
  go_at_call 48
  refine r1'.out.mono ?_
  rintro e W1 hin
  obtain ⟨hle1, v1, rfl, ⟨s1, Q1, m1, e1, Q2, m2, e2, rfl⟩, hr1⟩ := hin.res
  rw [hb'.out]
  obtain ⟨W2, hW2, hle2, kx⟩ : ∃ W2, W1.alloc (.cells #[.bool s1, .slice Q1 m1 e1, .slice Q2 m2 e2] 65) = W2 ∧ Le W1 W2 ∧ W2.heap[W1.heap.size]? = some (.cells #[.bool s1, .slice Q1 m1 e1, .slice Q2 m2 e2] 65) := ⟨_, rfl, le_alloc _ _, by unfold World.alloc; exact Array.getElem?_push_size⟩
  have hall := (hle'.out.trans hle1).trans hle2
  have hU2 := hL'.out.le hall
  obtain ⟨x0, x1, x2, -⟩ := cells3 kx
  have hin' := Lib.hid hin
  have hle1' := Lib.hid hle1
  have hle2' := Lib.hid hle2
  have hall' := Lib.hid hall
  have hU2' := Lib.hid hU2
  have kx' := Lib.hid kx
  have hr1' := Lib.hid hr1
  clear hr1 kx hU2 hall hle2 hle1 hin
  cases b
  · have hno := nearE_none hb'.out
    rw [hn'.out] at hno
    injection hno with k1 k2
    subst k1
    subst k2
    go_wp2
    go_ret2
    exact ⟨rfl, hall'.out⟩
  · obtain ⟨r, hr⟩ := okA_some hb'.out
    have hyes := nearE_some hr
    rw [hn'.out] at hyes
    have hrr := (hr1'.out r hr).le hle2'.out
    have hsz := FracA.sz hr
    obtain ⟨nf, hnf⟩ : ∃ nf, nearFits r = nf := ⟨_, rfl⟩
    rw [hnf] at hyes
    have hr' := Lib.hid hr
    have hrr' := Lib.hid hrr
    have hsz' := Lib.hid hsz
    have hnf' := Lib.hid hnf
    clear hnf hsz hrr hr
    go_wp2_with (fail)
    go_at_call 49
    refine (pf_n_Rounded L r _ W2 hU2'.out hrr'.out (hsz'.out.up (by decide))).mono ?_
    rintro e W3 ⟨rfl, hle3⟩
    rw [hnf'.out]
    have hall3 := hall'.out.trans hle3
    have hle3' := Lib.hid hle3
    have hall3' := Lib.hid hall3
    clear hall3 hle3
    cases nf
    · simp only [Bool.false_eq_true, if_false] at hyes
      injection hyes with k1 k2
      subst k1
      subst k2
      go_wp2
      go_ret2
      exact ⟨rfl, hall3'.out⟩
    · simp only [if_true] at hyes
      injection hyes with k1 k2
      subst k1
      subst k2
      go_wp2
      go_ret2
      exact ⟨rfl, hall3'.out⟩
end Go.Proofs.Ytemdemfknnkcaaa
