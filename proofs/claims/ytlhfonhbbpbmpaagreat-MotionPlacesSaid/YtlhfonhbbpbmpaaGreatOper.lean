/- exact: run at rat: the deferred closure, a call that returns, a call that reports an error; CheckFrac. exact: the closures of operated and Compare: two fractions that are arguments, then an operation. -/
import Derived.Test.YtlhfonhbbpbmpaaGreatRS4
import Derived.Test.YtlhfonhbbpbmpaaGreatRunFrac
namespace Go.Proofs.YtlhfonhbbpbmpaaGreat
set_option maxRecDepth 100000
set_option maxHeartbeats 4000000
open Go.RowKit Go.Shelf
set_option linter.unusedVariables false
set_option linter.unusedSimpArgs false
set_option maxRecDepth 10000
abbrev flt (c : Int) : List PanicEntry := [{ v := .iface 134 (.agg #[.int .i64 c]), recovered := false }]
structure TwoG (i j : Nat) (D : Nat → Bool) (x : Nat → Value) (W : World) : Prop where
 a : D i = true → ∃ k, x i = .pointer (some ⟨k, 0, none⟩) ∧ k < W.heap.size
 b : D j = true → ∃ k, x j = .pointer (some ⟨k, 0, none⟩) ∧ k < W.heap.size
 ne : D i = true → D j = true → x i ≠ x j
theorem TwoG.quiet {i j n : Nat} {D : Nat → Bool} {x : Nat → Value} {W W' : World} {v : Value} (h : TwoG i j D x W) (hs : Le W W') (hi : n ≠ i) (hj : n ≠ j) : TwoG i j (updB D n) (updV x n v) W' := by
 have e7 : ∀ q, q ≠ n → updB D n q = D q := fun q hq => by simp [updB, hq]
 have e8 : ∀ q, q ≠ n → updV x n v q = x q := fun q hq => by simp [updV, hq]
 refine ⟨?_, ?_, ?_⟩
 ·rw [e7 i (Ne.symm hi), e8 i (Ne.symm hi)]; exact fun hd => by obtain ⟨k, h1, h2⟩ := h.a hd; exact ⟨k, h1, Nat.lt_of_lt_of_le h2 hs.size⟩
 ·rw [e7 j (Ne.symm hj), e8 j (Ne.symm hj)]; exact fun hd => by obtain ⟨k, h1, h2⟩ := h.b hd; exact ⟨k, h1, Nat.lt_of_lt_of_le h2 hs.size⟩
 ·rw [e7 i (Ne.symm hi), e8 i (Ne.symm hi), e7 j (Ne.symm hj), e8 j (Ne.symm hj)]; exact h.ne
theorem TwoG.left {i j : Nat} {D : Nat → Bool} {x : Nat → Value} {W : World} {o : Obj} (h : TwoG i j D x W) (hij : i ≠ j) : TwoG i j (updB D i) (updV x i (.pointer (some ⟨W.heap.size, 0, none⟩))) (W.alloc o) := by
 have e7 : ∀ q, q ≠ i → updB D i q = D q := fun q hq => by simp [updB, hq]
 have e8 : ∀ v q, q ≠ i → updV x i v q = x q := fun v q hq => by simp [updV, hq]
 refine ⟨fun _ => ⟨W.heap.size, by simp [updV], by simp⟩, ?_, fun _ => ?_⟩
 ·rw [e7 j (Ne.symm hij), e8 _ j (Ne.symm hij)]; exact fun hd => by obtain ⟨k, h1, h2⟩ := h.b hd; exact ⟨k, h1, by rw [World.size_alloc]; omega⟩
 ·rw [e7 j (Ne.symm hij), e8 _ j (Ne.symm hij)]
  intro hd he
  obtain ⟨k, h1, h2⟩ := h.b hd
  rw [h1] at he
  simp only [updV, if_true] at he
  injection he with he
  injection he with he
  injection he with he
  omega
theorem TwoG.right {i j : Nat} {D : Nat → Bool} {x : Nat → Value} {W : World} {o : Obj} (h : TwoG i j D x W) (hij : i ≠ j) : TwoG i j (updB D j) (updV x j (.pointer (some ⟨W.heap.size, 0, none⟩))) (W.alloc o) := by
 have e7 : ∀ q, q ≠ j → updB D j q = D q := fun q hq => by simp [updB, hq]
 have e8 : ∀ v q, q ≠ j → updV x j v q = x q := fun v q hq => by simp [updV, hq]
 refine ⟨?_, fun _ => ⟨W.heap.size, by simp [updV], by simp⟩, ?_⟩
 ·rw [e7 i hij, e8 _ i hij]; exact fun hd => by obtain ⟨k, h1, h2⟩ := h.a hd; exact ⟨k, h1, by rw [World.size_alloc]; omega⟩
 ·rw [e7 i hij, e8 _ i hij]
  intro hd _ he
  obtain ⟨k, h1, h2⟩ := h.a hd
  rw [h1] at he
  simp only [updV, if_true] at he
  injection he with he
  injection he with he
  injection he with he
  omega
theorem TwoG.start {i j : Nat} {D : Nat → Bool} {x : Nat → Value} {W : World} (hi : D i = false) (hj : D j = false) : TwoG i j D x W :=
 ⟨fun h => absurd h (by rw [hi]; simp), fun h => absurd h (by rw [hj]; simp), fun h => absurd h (by rw [hi]; simp)⟩
def MPred.ratO (x : FracA) : MPred := ⟨fun v w => ∃ r, x.rat? = some r ∧ RatL (fun _ => True) .u32 w v r, fun _ _ _ hb ⟨r, e, h⟩ => ⟨r, e, h.le hb⟩⟩
def FBox (W : World) (B : Nat) (v : Value) (x : FracA) : Prop := ∃ A c A' c', v = .agg #[.bool x.sn, .slice A x.gn.length c, .bool x.sd, .slice A' x.gd.length c'] ∧ W.heap[B]? = some (.cells #[.bool x.sn, .slice A x.gn.length c, .bool x.sd, .slice A' x.gd.length c'] 27) ∧ IsFracA (fun _ => True) W v x
theorem FBox.lt {W : World} {B : Nat} {v : Value} {x : FracA} (h : FBox W B v x) : B < W.heap.size := by
 obtain ⟨A, c, A', c', e, h1, h2⟩ := h
 exact (gsl h1)
def OperPost (L : Nat → Prop) (res : Except Int Rat) (w : World) (e : Ending) (w' : World) : Prop := Le w w' ∧ ((∃ r v, res = .ok r ∧ e = .returned v ∧ FracL L w' v r) ∨ (∃ c, res = .error c ∧ e = .panicked (flt c)))
theorem qGy : qA7 Tryz.prog 48 := fun _ _ => by kernel_rfl
def qJR (x y : FracA) (w : World) (e : Ending) (w' : World) : Prop := Le w w' ∧ (((okA x && okA y) = true ∧ e = .returned (.int .i64 (cmpV x y))) ∨ ((okA x && okA y) = false ∧ e = .panicked (flt 10)))
theorem qL8 {x y : FracA} (h : x.rat? = none ∨ y.rat? = none) : (okA x && okA y) = false := by
 unfold okA
 rcases h with h | h
 ·rw [h]; rfl
 ·rw [h]; simp
theorem qLD {x y : FracA} {a b : Rat} (h1 : x.rat? = some a) (h2 : y.rat? = some b) : (okA x && okA y) = true := by unfold okA; rw [h1, h2]; rfl
theorem qIy (x y : FracA) (Bx By : Nat) (va vb : Value) (w : World) (hx : FBox w Bx va x) (hy : FBox w By vb y) :
  Calls Tryz.prog 48 #[.pointer (some ⟨Bx, 0, none⟩), .pointer (some ⟨By, 0, none⟩)] w (qJR x y w) := by
 have hxl := hx.lt
 have hyl := hy.lt
 obtain ⟨A, c, A', c', rfl, kx, hxa⟩ := hx
 obtain ⟨B, d, B', d', rfl, ky, hya⟩ := hy
 obtain ⟨a0, a1, a2, a3⟩ := qAM kx
 obtain ⟨b0, b1, b2, b3⟩ := qAM ky
 have ⟨kx', ky', hxa', hya'⟩ := hyd4 kx ky hxa hya
 clear hya hxa ky kx
 go_enter Tryz.func48, Tryz.ntmps48
 go_wp2_with (fail)
 refine qBc (R := leRel) 6 [some 5, some 6, some 7, some 8, some 3, some 4, none, none] [[], [0], [], [2], [], [], [1, 4], [3, 5]]
  [.eq (.agg #[.bool x.sn, .slice A x.gn.length c, .bool x.sd, .slice A' x.gd.length c']), MPred.ratO x, .eq (.agg #[.bool y.sn, .slice B y.gn.length d, .bool y.sd, .slice B' y.gd.length d']), MPred.ratO y, MPred.box w.heap.size (.cells #[.bool false, .slice none 0 0, .slice none 0 0] 87), MPred.box w.heap.size (.cells #[.bool false, .slice none 0 0, .slice none 0 0] 87)] (TwoG 4 5) (fun ch W => ch = flt 10 ∧ (x.rat? = none ∨ y.rat? = none) ∧ Le w W) (by kernel_rfl) (by kernel_rfl) (by kernel_rfl) (by kernel_rfl) (by kernel_rfl) (fun D x' hD => TwoG.start (hD 4 (by decide)) (hD 5 (by decide))) ?_ ?_ ?_
 ·simp only [List.take_succ_cons, List.take_zero]
  refine sGc rfl ?_ (sGc rfl ?_ (sGc rfl ?_ (sGc rfl ?_ (sGc rfl ?_ (sGc rfl ?_ (qBT))))))
  ·intro D x' W hD hdn hR hf hG Q hK hP
   have cc0 := (Below.cell hR (p := ⟨Bx, 0, none⟩) (by show Bx < w.heap.size; omega)).trans a0
   have cc1 := (Below.cell hR (p := ⟨Bx, 1, none⟩) (by show Bx < w.heap.size; omega)).trans a1
   have cc2 := (Below.cell hR (p := ⟨Bx, 2, none⟩) (by show Bx < w.heap.size; omega)).trans a2
   have cc3 := (Below.cell hR (p := ⟨Bx, 3, none⟩) (by show Bx < w.heap.size; omega)).trans a3
   simp only [fA] at hK ⊢
   go_wp2
   exact hK _ _ lrR rfl (hG.quiet (Le.refl _) (by decide) (by decide))
  ·intro D x' W hD hdn hR hf hG Q hK hP
   obtain ⟨e0, -⟩ := hf
   change _ = _ at e0
   simp only [fA, e0] at hK ⊢
   cases hr : x.rat? with
   | some r =>
    have r1 := qBU (fun _ => True) x r _ W (Up.any _) (hxa'.out.le hR) hr
    have ⟨r1', hr', hG', hR'⟩ := hyd4 r1 hr hG hR
    clear hR hG hr r1
    go_wp2_with (fail)
    go_at_call 49
    refine r1'.out.mono ?_
    rintro e w' ⟨v', rfl, y1, y2⟩
    have y3 := y2
    obtain ⟨A1, c1, A2, c2, rfl, -, -⟩ := y2.form
    have y2' := hyd1 y2
    clear y2
    go_wp2
    exact hK _ _ y1 ⟨r, hr'.out, y3⟩ (hG'.out.quiet y1 (by decide) (by decide))
   | none =>
    have r1 := qDE (fun _ => True) x _ W (Up.any _) (hxa'.out.le hR) hr
    have ⟨r1', hr', hG', hR'⟩ := hyd4 r1 hr hG hR
    clear hR hG hr r1
    go_wp2_with (fail)
    go_at_call 49
    refine r1'.out.mono ?_
    rintro e w' ⟨rfl, y1⟩
    go_wp2_with (fail)
    exact hP _ _ _ ⟨rfl, .inl hr'.out, hR'.out.trans y1⟩
  ·intro D x' W hD hdn hR hf hG Q hK hP
   have cc0 := (Below.cell hR (p := ⟨By, 0, none⟩) (by show By < w.heap.size; omega)).trans b0
   have cc1 := (Below.cell hR (p := ⟨By, 1, none⟩) (by show By < w.heap.size; omega)).trans b1
   have cc2 := (Below.cell hR (p := ⟨By, 2, none⟩) (by show By < w.heap.size; omega)).trans b2
   have cc3 := (Below.cell hR (p := ⟨By, 3, none⟩) (by show By < w.heap.size; omega)).trans b3
   simp only [fA] at hK ⊢
   go_wp2
   exact hK _ _ lrR rfl (hG.quiet (Le.refl _) (by decide) (by decide))
  ·intro D x' W hD hdn hR hf hG Q hK hP
   obtain ⟨e0, -⟩ := hf
   change _ = _ at e0
   simp only [fA, e0] at hK ⊢
   cases hr : y.rat? with
   | some r =>
    have r1 := qBU (fun _ => True) y r _ W (Up.any _) (hya'.out.le hR) hr
    have ⟨r1', hr', hG', hR'⟩ := hyd4 r1 hr hG hR
    clear hR hG hr r1
    go_wp2_with (fail)
    go_at_call 49
    refine r1'.out.mono ?_
    rintro e w' ⟨v', rfl, y1, y2⟩
    have y3 := y2
    obtain ⟨A1, c1, A2, c2, rfl, -, -⟩ := y2.form
    have y2' := hyd1 y2
    clear y2
    go_wp2
    exact hK _ _ y1 ⟨r, hr'.out, y3⟩ (hG'.out.quiet y1 (by decide) (by decide))
   | none =>
    have r1 := qDE (fun _ => True) y _ W (Up.any _) (hya'.out.le hR) hr
    have ⟨r1', hr', hG', hR'⟩ := hyd4 r1 hr hG hR
    clear hR hG hr r1
    go_wp2_with (fail)
    go_at_call 49
    refine r1'.out.mono ?_
    rintro e w' ⟨rfl, y1⟩
    go_wp2_with (fail)
    exact hP _ _ _ ⟨rfl, .inr hr'.out, hR'.out.trans y1⟩
  ·intro D x' W hD hdn hR hf hG Q hK hP
   simp only [fA] at hK ⊢
   have hs9 := hR.size
   go_wp2
   exact hK _ _ (qAA _ _) ⟨_, rfl, hs9, by unfold World.alloc; exact Array.getElem?_push_size⟩ (hG.left (by decide))
  ·intro D x' W hD hdn hR hf hG Q hK hP
   simp only [fA] at hK ⊢
   have hs9 := hR.size
   go_wp2
   exact hK _ _ (qAA _ _) ⟨_, rfl, hs9, by unfold World.alloc; exact Array.getElem?_push_size⟩ (hG.right (by decide))
 ·rintro a9 ch W hdf ⟨rfl, hbad, hle9⟩
  exact ⟨hdf, hle9, .inr ⟨qL8 hbad, rfl⟩⟩
 ·intro D x' W hD hR hf hG Q' hQ1 _
  have e0 := hf 0 (by decide)
  have e2 := hf 2 (by decide)
  change _ = _ at e0 e2
  obtain ⟨a, ha, hra⟩ := hf 1 (by decide)
  obtain ⟨b, hb, hrb⟩ := hf 3 (by decide)
  obtain ⟨k4, q4, hk4, hx4⟩ := hf 4 (by decide)
  obtain ⟨k5, q5, hk5, hx5⟩ := hf 5 (by decide)
  replace q4 : x' 4 = _ := q4
  replace q5 : x' 5 = _ := q5
  replace hra : RatL (fun _ => True) .u32 W (x' 1) a := hra
  replace hrb : RatL (fun _ => True) .u32 W (x' 3) b := hrb
  have hne := hG.ne (hD 4 (by decide)) (hD 5 (by decide))
  rw [q4, q5] at hne
  have hne2 : k5 ≠ k4 := fun h => hne (by rw [h])
  obtain ⟨An, cn, Ad, cd, q1, -, -⟩ := hra.form
  obtain ⟨Bn, dn, Bd, dd, q3, -, -⟩ := hrb.form
  rw [q1] at hra
  rw [q3] at hrb
  simp only [List.drop_succ_cons, List.drop_zero]
  rw [show List.range 6 = [0, 1, 2, 3, 4, 5] from rfl]
  simp only [fA, e0, e2, q1, q3, q4, q5]
  clear e0 e2 q1 q3 q4 q5 hf hG hD hne
  obtain ⟨sa, hsa⟩ : ∃ sa, rneg a = sa := ⟨_, rfl⟩
  obtain ⟨sb, hsb⟩ : ∃ sb, rneg b = sb := ⟨_, rfl⟩
  rw [hsa] at hra ⊢
  rw [hsb] at hrb ⊢
  obtain ⟨V1, hV1, hle1, j4, j5, hra1, hrb1⟩ : ∃ V1, ((W.setCell ⟨k4, 0, none⟩ (.bool sa)).setCell ⟨k4, 1, none⟩ (.slice An (dg (rnum a)).length cn)).setCell ⟨k4, 2, none⟩ (.slice Ad (dg a.den).length cd) = V1 ∧ Le w V1 ∧ V1.heap[k4]? = some (.cells #[.bool sa, .slice An (dg (rnum a)).length cn, .slice Ad (dg a.den).length cd] 87) ∧ V1.heap[k5]? = some (.cells #[.bool false, .slice none 0 0, .slice none 0 0] 87) ∧ RatL (fun _ => True) .u32 V1 (.agg #[.bool sa, .slice An (dg (rnum a)).length cn, .slice Ad (dg a.den).length cd]) a ∧ RatL (fun _ => True) .u32 V1 (.agg #[.bool sb, .slice Bn (dg (rnum b)).length dn, .slice Bd (dg b.den).length dd]) b :=
   ⟨_, rfl, qA8 hR hk4, qAY hx4, ((Below.heap_setCell _ _ _ _ hne2).trans ((Below.heap_setCell _ _ _ _ hne2).trans (Below.heap_setCell _ _ _ _ hne2))).trans hx5, hra.box3 hx4, hrb.box3 hx4⟩
  obtain ⟨V2, hV2, hle2, l4, l5, hra2, hrb2⟩ : ∃ V2, ((V1.setCell ⟨k5, 0, none⟩ (.bool sb)).setCell ⟨k5, 1, none⟩ (.slice Bn (dg (rnum b)).length dn)).setCell ⟨k5, 2, none⟩ (.slice Bd (dg b.den).length dd) = V2 ∧ Le w V2 ∧ V2.heap[k4]? = some (.cells #[.bool sa, .slice An (dg (rnum a)).length cn, .slice Ad (dg a.den).length cd] 87) ∧ V2.heap[k5]? = some (.cells #[.bool sb, .slice Bn (dg (rnum b)).length dn, .slice Bd (dg b.den).length dd] 87) ∧ RatL (fun _ => True) .u32 V2 (.agg #[.bool sa, .slice An (dg (rnum a)).length cn, .slice Ad (dg a.den).length cd]) a ∧ RatL (fun _ => True) .u32 V2 (.agg #[.bool sb, .slice Bn (dg (rnum b)).length dn, .slice Bd (dg b.den).length dd]) b :=
   ⟨_, rfl, qA8 hle1 hk5, ((Below.heap_setCell _ _ _ _ (Ne.symm hne2)).trans ((Below.heap_setCell _ _ _ _ (Ne.symm hne2)).trans (Below.heap_setCell _ _ _ _ (Ne.symm hne2)))).trans j4, qAY j5, hra1.box3 j5, hrb1.box3 j5⟩
  have hne3 : ¬ k5 = k4 := hne2
  have hne4 : ¬ k4 = k5 := fun h => hne2 h.symm
  obtain ⟨z0, z1, z2, f0, f1, f2⟩ := qAD hx4
  obtain ⟨u0, u1, u2, g0, g1, g2⟩ := qAD j5
  obtain ⟨d0, d1, d2, -⟩ := qAD l4
  obtain ⟨d3, d4, d5, -⟩ := qAD l5
  have hl4 := (gsl l4)
  have hl5 := (gsl l5)
  have ⟨hR', hle1', hle2', hx4', hx5', j4', j5', l4'⟩ := hyd8 hR hle1 hle2 hx4 hx5 j4 j5 l4
  have ⟨l5', hra', hrb', hra1', hrb1', hra2', hrb2', hsa'⟩ := hyd8 l5 hra hrb hra1 hrb1 hra2 hrb2 hsa
  have ⟨hsb', ha', hb'⟩ := hyd3 hsb ha hb
  clear hb ha hsb hsa hrb2 hra2 hrb1 hra1 hrb hra l5 l4 j5 j4 hx5 hx4 hle2 hle1 hR
  go_wp2
  clear z0 z1 z2 f0 f1 f2 u0 u1 u2 g0 g1 g2
  refine hQ1 _ _ ?_
  clear hV1 hV2
  have hgood := qLD ha'.out hb'.out
  have hcv := qH0 ha'.out hb'.out
  obtain ⟨cv, hcv2⟩ : ∃ cv, rsgn (a - b) = cv := ⟨_, rfl⟩
  rw [hcv2] at hcv
  have hmin := qHV (fun _ => True) a b _ _ V2 (Up.any _) hra2'.out hrb2'.out ((FracA.sz ha'.out).up (by decide)) ((FracA.sz hb'.out).up (by decide))
  have ⟨hgood', hcv', hcv2', hmin'⟩ := hyd4 hgood hcv hcv2 hmin
  clear hmin hcv2 hcv hgood
  go_wp2_with (fail)
  go_at_call 50
  refine hmin'.out.mono ?_
  rintro e V3 ⟨v3, rfl, hle3, hr3⟩
  obtain ⟨Cn, en, Cd, ed, e3, -, -⟩ := hr3.form
  have hsg := qFh (fun _ => True) (a - b) _ V3 hr3
  rw [hcv2'.out] at hsg
  subst e3
  have ⟨hle3', hr3', hsg'⟩ := hyd3 hle3 hr3 hsg
  clear hsg hr3 hle3
  go_wp2_with (fail)
  go_at_call 51
  refine hsg'.out.mono ?_
  rintro e V4 ⟨rfl, hle4⟩
  have hle9 := (hle2'.out.trans hle3'.out).trans hle4
  have ⟨hle4', hle9'⟩ := hyd2 hle4 hle9
  clear hle9 hle4
  go_wp2
  go_ret
  exact ⟨hle9'.out, .inl ⟨hgood'.out, by rw [hcv'.out]; rfl⟩⟩
end Go.Proofs.YtlhfonhbbpbmpaaGreat

