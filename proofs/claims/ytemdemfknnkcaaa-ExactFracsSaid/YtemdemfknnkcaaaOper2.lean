/- exact: operated, Add, Sub, Mul, Div, Compare. -/
import Derived.Test.YtemdemfknnkcaaaOper
namespace Go.Proofs.Ytemdemfknnkcaaa
open Go.RowKit Go.Shelf
set_option linter.unusedVariables false
set_option linter.unusedSimpArgs false
theorem OperPost.ok {L : Nat → Prop} {r : Rat} {w : World} {e : Ending} {w' : World} (h : OperPost L (.ok r) w e w') : ∃ v, e = .returned v ∧ Le w w' ∧ FracL L w' v r := by
  obtain ⟨hle, ⟨r', v, hr, rfl, hf⟩ | ⟨c, hr, -⟩⟩ := h
  · injection hr with hr
    subst hr
    exact ⟨v, rfl, hle, hf⟩
  · cases hr
theorem OperPost.err {L : Nat → Prop} {c : Int} {w : World} {e : Ending} {w' : World} (h : OperPost L (.error c) w e w') : e = .panicked (flt c) ∧ Le w w' := by
  obtain ⟨hle, ⟨r', v, hr, -⟩ | ⟨c', hr, rfl⟩⟩ := h
  · cases hr
  · injection hr with hr
    subst hr
    exact ⟨rfl, hle⟩
theorem pf_run_frac (L : Nat → Prop) (res : Except Int Rat) (g : FuncId) (cap : Array Value) (w : World) (hg : Plain Try.prog g) (hf : ∀ W, Le w W → Calls Try.prog g cap W (OperPost L res W)) :
    Calls Try.prog 50 #[.func (.func g) #[] cap] w (ResPost L res w) := by
  cases res with
  | ok r =>
    refine (pf_run_frac_ok L r g cap w hg fun W hW => (hf W hW).mono fun e W' h => h.ok).mono ?_
    rintro e w' ⟨v, rfl, hle, h⟩
    exact ⟨hle, v, 0, rfl, h, rfl⟩
  | error c =>
    refine (pf_run_frac_err c g cap w hg fun W hW => (hf W hW).mono fun e W' h => h.err).mono ?_
    rintro e w' ⟨rfl, hle⟩
    exact ⟨hle, zeroF, c, rfl, rfl, rfl⟩
theorem FBox.mk {w W : World} {B : Nat} {x : FracA} {A A' : Option Addr} {c c' : Nat} {L : Nat → Prop} (hv : IsFracA L w (.agg #[.bool x.sn, .slice A x.gn.length c, .bool x.sd, .slice A' x.gd.length c']) x) (hle : Le w W) (hk : W.heap[B]? = some (.cells #[.bool x.sn, .slice A x.gn.length c, .bool x.sd, .slice A' x.gd.length c'] 26)) : FBox W B (.agg #[.bool x.sn, .slice A x.gn.length c, .bool x.sd, .slice A' x.gd.length c']) x :=
  ⟨A, c, A', c', rfl, hk, (hv.le hle).mono fun _ _ => trivial⟩
set_option maxRecDepth 100000 in
set_option maxHeartbeats 2000000 in
theorem pf_operated (L : Nat → Prop) (x y : FracA) (f : Rat → Rat → Except Int Rat) (g : FuncId) (va vb : Value) (w : World) (hL : Up w L) (h1 : IsFracA (fun _ => True) w va x) (h2 : IsFracA (fun _ => True) w vb y) (hg : Plain Try.prog g) (hop : OpOk Try.prog g f) :
    Calls Try.prog 61 #[va, vb, .func (.func g) #[] #[]] w (ResPost L (opR f x y) w) := by
  have hx0 := h1
  have hy0 := h2
  obtain ⟨A, c, A', c', rfl, p1, p2⟩ := h1
  obtain ⟨B, d, B', d', rfl, q1, q2⟩ := h2
  obtain ⟨W0, hW0, hsz, hle, k0, k1, k2, k3⟩ := new4_le w (.cells #[.bool x.sn, .slice A x.gn.length c, .bool x.sd, .slice A' x.gd.length c'] 26) (.cells #[.bool y.sn, .slice B y.gn.length d, .bool y.sd, .slice B' y.gd.length d'] 26) (.cells #[.func (.func g) #[] #[]] 96) (.cells #[.bool false, .slice none 0 0, .bool false, .slice none 0 0] 26)
  have hmf : ∀ (fn : Fn) (first cap : Array Value) (w : World), (Instr.makeFunc fn first cap).run Try.prog w = .ok (.func fn first cap) w := fun _ _ _ _ => rfl
  have hf : ∀ W, Le W0 W → Calls Try.prog 107 #[.pointer (some ⟨w.heap.size, 0, none⟩), .pointer (some ⟨w.heap.size + 1, 0, none⟩), .pointer (some ⟨w.heap.size + 1 + 1, 0, none⟩)] W (OperPost L (opR f x y) W) := fun W hW =>
    pf_operated1 L x y f g _ _ _ _ _ W (hL.le (hle.trans hW)) (FBox.mk hx0 (hle.trans hW) ((hW.block _ (by omega)).trans k0)) (FBox.mk hy0 (hle.trans hW) ((hW.block _ (by omega)).trans k1)) _ ((hW.block _ (by omega)).trans k2) hg hop
  have hrun := pf_run_frac L (opR f x y) _ _ W0 plain_operated1 hf
  have hL' := Lib.hid hL
  have hx0' := Lib.hid hx0
  have hy0' := Lib.hid hy0
  have p1' := Lib.hid p1
  have p2' := Lib.hid p2
  have q1' := Lib.hid q1
  have q2' := Lib.hid q2
  have hle' := Lib.hid hle
  have k0' := Lib.hid k0
  have k1' := Lib.hid k1
  have k2' := Lib.hid k2
  have k3' := Lib.hid k3
  have hf' := Lib.hid hf
  have hrun' := Lib.hid hrun
  have hop' := Lib.hid hop
  have hg' := Lib.hid hg
  clear hg hop hrun hf k3 k2 k1 k0 hle q2 q1 p2 p1 hy0 hx0 hL
  go_enter Try.func61, Try.ntmps61
  go_wp2_with (fail)
  clear hW0
  go_at_call 50
  refine hrun'.out.mono ?_
  rintro e W1 ⟨hle1, v1, cc, rfl, hres⟩
  have hresF := hres.form
  obtain ⟨s5, A5, n5, c5, s6, A6, n6, c6, rfl⟩ := hresF
  have k9 := (hle1.block _ (Array.getElem?_eq_some_iff.1 k3'.out).1).trans k3'.out
  have hle9 := fun u0 u1 u2 u3 => le_set4 (u0 := u0) (u1 := u1) (u2 := u2) (u3 := u3) (hle'.out.trans hle1) (show w.heap.size ≤ w.heap.size + 1 + 1 + 1 by omega)
  have hb9 := fun u0 u1 u2 u3 => cells4 (heap_set4 (u0 := u0) (u1 := u1) (u2 := u2) (u3 := u3) k9)
  have hfin := fun u0 u1 u2 u3 => IsRes.box4 (u0 := u0) (u1 := u1) (u2 := u2) (u3 := u3) hres k9
  obtain ⟨f0, f1, f2, f3⟩ := cells4 k9
  have g0 := frozen00 k9 0
  have g1 := frozen00 k9 1
  have g2 := frozen00 k9 2
  have g3 := frozen00 k9 3
  have hle1' := Lib.hid hle1
  have hres' := Lib.hid hres
  have k9' := Lib.hid k9
  have hle9' := Lib.hid hle9
  have hb9' := Lib.hid hb9
  have hfin' := Lib.hid hfin
  clear hfin hb9 hle9 k9 hres hle1
  go_wp2
  obtain ⟨d0, d1, d2, d3⟩ := hb9'.out (.bool s5) (.slice A5 n5 c5) (.bool s6) (.slice A6 n6 c6)
  exact bodyPost_ret (v := .tuple #[.agg #[.bool s5, .slice A5 n5 c5, .bool s6, .slice A6 n6 c6], .int .i64 cc]) (by simp [results, Try.results61, go_sem, d0, d1, d2, d3]) rfl ⟨hle9'.out _ _ _ _, _, _, rfl, hfin'.out _ _ _ _⟩
theorem plain_rplus : Plain Try.prog 41 := fun _ _ => by kernel_rfl
theorem opOk_rplus : OpOk Try.prog 41 (fun a b => outR (a + b)) := fun a b va vb W ha hb hva hvb =>
  (pf_rplus (fun _ => True) a b va vb W (Up.any _) hva hvb (ha.up (by decide)) (hb.up (by decide))).mono fun e W' ⟨v, he, hle, hr⟩ => ⟨hle, .inl ⟨_, v, rfl, he, hr⟩⟩
set_option maxRecDepth 100000 in
set_option maxHeartbeats 2000000 in
theorem pf_Add (L : Nat → Prop) (x y : FracA) (va vb : Value) (w : World) (hL : Up w L) (h1 : IsFracA (fun _ => True) w va x) (h2 : IsFracA (fun _ => True) w vb y) :
    Calls Try.prog 18 #[va, vb] w (ResPost L (opR (fun a b => outR (a + b)) x y) w) := by
  have hx0 := h1
  have hy0 := h2
  obtain ⟨A, c, A', c', rfl, p1, p2⟩ := h1
  obtain ⟨B, d, B', d', rfl, q1, q2⟩ := h2
  obtain ⟨W0, hW0, hsz, hle, k0, k1, k2⟩ := new3_le w (.cells #[.bool x.sn, .slice A x.gn.length c, .bool x.sd, .slice A' x.gd.length c'] 26) (.cells #[.bool y.sn, .slice B y.gn.length d, .bool y.sd, .slice B' y.gd.length d'] 26) (.cells #[.bool false, .slice none 0 0, .bool false, .slice none 0 0] 26)
  obtain ⟨a0, a1, a2, a3⟩ := cells4 k0
  obtain ⟨b0, b1, b2, b3⟩ := cells4 k1
  have hcall := pf_operated L x y (fun a b => outR (a + b)) 41 _ _ W0 (hL.le hle) (hx0.le hle) (hy0.le hle) plain_rplus opOk_rplus
  have hL' := Lib.hid hL
  have hx0' := Lib.hid hx0
  have hy0' := Lib.hid hy0
  have p1' := Lib.hid p1
  have p2' := Lib.hid p2
  have q1' := Lib.hid q1
  have q2' := Lib.hid q2
  have hle' := Lib.hid hle
  have k0' := Lib.hid k0
  have k1' := Lib.hid k1
  have k2' := Lib.hid k2
  have hcall' := Lib.hid hcall
  clear hcall k2 k1 k0 hle q2 q1 p2 p1 hy0 hx0 hL
  go_enter Try.func18, Try.ntmps18
  go_wp2_with (fail)
  clear hW0
  go_at_call 61
  refine hcall'.out.mono ?_
  rintro e W1 ⟨hle1, v1, cc, rfl, hres⟩
  have hresF := hres.form
  obtain ⟨s5, A5, n5, c5, s6, A6, n6, c6, rfl⟩ := hresF
  have k9 := (hle1.block _ (Array.getElem?_eq_some_iff.1 k2'.out).1).trans k2'.out
  have hle9 := fun u0 u1 u2 u3 => le_set4 (u0 := u0) (u1 := u1) (u2 := u2) (u3 := u3) (hle'.out.trans hle1) (show w.heap.size ≤ w.heap.size + 1 + 1 by omega)
  have hb9 := fun u0 u1 u2 u3 => cells4 (heap_set4 (u0 := u0) (u1 := u1) (u2 := u2) (u3 := u3) k9)
  have hfin := fun u0 u1 u2 u3 => IsRes.box4 (u0 := u0) (u1 := u1) (u2 := u2) (u3 := u3) hres k9
  obtain ⟨f0, f1, f2, f3⟩ := cells4 k9
  have g0 := frozen00 k9 0
  have g1 := frozen00 k9 1
  have g2 := frozen00 k9 2
  have g3 := frozen00 k9 3
  have hle1' := Lib.hid hle1
  have hres' := Lib.hid hres
  have k9' := Lib.hid k9
  have hle9' := Lib.hid hle9
  have hb9' := Lib.hid hb9
  have hfin' := Lib.hid hfin
  clear hfin hb9 hle9 k9 hres hle1
  go_wp2
  obtain ⟨d0, d1, d2, d3⟩ := hb9'.out (.bool s5) (.slice A5 n5 c5) (.bool s6) (.slice A6 n6 c6)
  exact bodyPost_ret (v := .tuple #[.agg #[.bool s5, .slice A5 n5 c5, .bool s6, .slice A6 n6 c6], .int .i64 cc]) (by simp [results, Try.results18, go_sem, d0, d1, d2, d3]) rfl ⟨hle9'.out _ _ _ _, _, _, rfl, hfin'.out _ _ _ _⟩
theorem plain_rminus : Plain Try.prog 36 := fun _ _ => by kernel_rfl
theorem opOk_rminus : OpOk Try.prog 36 (fun a b => outR (a - b)) := fun a b va vb W ha hb hva hvb =>
  (pf_rminus (fun _ => True) a b va vb W (Up.any _) hva hvb (ha.up (by decide)) (hb.up (by decide))).mono fun e W' ⟨v, he, hle, hr⟩ => ⟨hle, .inl ⟨_, v, rfl, he, hr⟩⟩
set_option maxRecDepth 100000 in
set_option maxHeartbeats 2000000 in
theorem pf_Sub (L : Nat → Prop) (x y : FracA) (va vb : Value) (w : World) (hL : Up w L) (h1 : IsFracA (fun _ => True) w va x) (h2 : IsFracA (fun _ => True) w vb y) :
    Calls Try.prog 20 #[va, vb] w (ResPost L (opR (fun a b => outR (a - b)) x y) w) := by
  have hx0 := h1
  have hy0 := h2
  obtain ⟨A, c, A', c', rfl, p1, p2⟩ := h1
  obtain ⟨B, d, B', d', rfl, q1, q2⟩ := h2
  obtain ⟨W0, hW0, hsz, hle, k0, k1, k2⟩ := new3_le w (.cells #[.bool x.sn, .slice A x.gn.length c, .bool x.sd, .slice A' x.gd.length c'] 26) (.cells #[.bool y.sn, .slice B y.gn.length d, .bool y.sd, .slice B' y.gd.length d'] 26) (.cells #[.bool false, .slice none 0 0, .bool false, .slice none 0 0] 26)
  obtain ⟨a0, a1, a2, a3⟩ := cells4 k0
  obtain ⟨b0, b1, b2, b3⟩ := cells4 k1
  have hcall := pf_operated L x y (fun a b => outR (a - b)) 36 _ _ W0 (hL.le hle) (hx0.le hle) (hy0.le hle) plain_rminus opOk_rminus
  have hL' := Lib.hid hL
  have hx0' := Lib.hid hx0
  have hy0' := Lib.hid hy0
  have p1' := Lib.hid p1
  have p2' := Lib.hid p2
  have q1' := Lib.hid q1
  have q2' := Lib.hid q2
  have hle' := Lib.hid hle
  have k0' := Lib.hid k0
  have k1' := Lib.hid k1
  have k2' := Lib.hid k2
  have hcall' := Lib.hid hcall
  clear hcall k2 k1 k0 hle q2 q1 p2 p1 hy0 hx0 hL
  go_enter Try.func20, Try.ntmps20
  go_wp2_with (fail)
  clear hW0
  go_at_call 61
  refine hcall'.out.mono ?_
  rintro e W1 ⟨hle1, v1, cc, rfl, hres⟩
  have hresF := hres.form
  obtain ⟨s5, A5, n5, c5, s6, A6, n6, c6, rfl⟩ := hresF
  have k9 := (hle1.block _ (Array.getElem?_eq_some_iff.1 k2'.out).1).trans k2'.out
  have hle9 := fun u0 u1 u2 u3 => le_set4 (u0 := u0) (u1 := u1) (u2 := u2) (u3 := u3) (hle'.out.trans hle1) (show w.heap.size ≤ w.heap.size + 1 + 1 by omega)
  have hb9 := fun u0 u1 u2 u3 => cells4 (heap_set4 (u0 := u0) (u1 := u1) (u2 := u2) (u3 := u3) k9)
  have hfin := fun u0 u1 u2 u3 => IsRes.box4 (u0 := u0) (u1 := u1) (u2 := u2) (u3 := u3) hres k9
  obtain ⟨f0, f1, f2, f3⟩ := cells4 k9
  have g0 := frozen00 k9 0
  have g1 := frozen00 k9 1
  have g2 := frozen00 k9 2
  have g3 := frozen00 k9 3
  have hle1' := Lib.hid hle1
  have hres' := Lib.hid hres
  have k9' := Lib.hid k9
  have hle9' := Lib.hid hle9
  have hb9' := Lib.hid hb9
  have hfin' := Lib.hid hfin
  clear hfin hb9 hle9 k9 hres hle1
  go_wp2
  obtain ⟨d0, d1, d2, d3⟩ := hb9'.out (.bool s5) (.slice A5 n5 c5) (.bool s6) (.slice A6 n6 c6)
  exact bodyPost_ret (v := .tuple #[.agg #[.bool s5, .slice A5 n5 c5, .bool s6, .slice A6 n6 c6], .int .i64 cc]) (by simp [results, Try.results20, go_sem, d0, d1, d2, d3]) rfl ⟨hle9'.out _ _ _ _, _, _, rfl, hfin'.out _ _ _ _⟩
theorem plain_rtimes : Plain Try.prog 64 := fun _ _ => by kernel_rfl
theorem opOk_rtimes : OpOk Try.prog 64 (fun a b => outR (a * b)) := fun a b va vb W ha hb hva hvb =>
  (pf_rtimes (fun _ => True) a b va vb W (Up.any _) hva hvb (ha.up (by decide)) (hb.up (by decide))).mono fun e W' ⟨v, he, hle, hr⟩ => ⟨hle, .inl ⟨_, v, rfl, he, hr⟩⟩
set_option maxRecDepth 100000 in
set_option maxHeartbeats 2000000 in
theorem pf_Mul (L : Nat → Prop) (x y : FracA) (va vb : Value) (w : World) (hL : Up w L) (h1 : IsFracA (fun _ => True) w va x) (h2 : IsFracA (fun _ => True) w vb y) :
    Calls Try.prog 22 #[va, vb] w (ResPost L (opR (fun a b => outR (a * b)) x y) w) := by
  have hx0 := h1
  have hy0 := h2
  obtain ⟨A, c, A', c', rfl, p1, p2⟩ := h1
  obtain ⟨B, d, B', d', rfl, q1, q2⟩ := h2
  obtain ⟨W0, hW0, hsz, hle, k0, k1, k2⟩ := new3_le w (.cells #[.bool x.sn, .slice A x.gn.length c, .bool x.sd, .slice A' x.gd.length c'] 26) (.cells #[.bool y.sn, .slice B y.gn.length d, .bool y.sd, .slice B' y.gd.length d'] 26) (.cells #[.bool false, .slice none 0 0, .bool false, .slice none 0 0] 26)
  obtain ⟨a0, a1, a2, a3⟩ := cells4 k0
  obtain ⟨b0, b1, b2, b3⟩ := cells4 k1
  have hcall := pf_operated L x y (fun a b => outR (a * b)) 64 _ _ W0 (hL.le hle) (hx0.le hle) (hy0.le hle) plain_rtimes opOk_rtimes
  have hL' := Lib.hid hL
  have hx0' := Lib.hid hx0
  have hy0' := Lib.hid hy0
  have p1' := Lib.hid p1
  have p2' := Lib.hid p2
  have q1' := Lib.hid q1
  have q2' := Lib.hid q2
  have hle' := Lib.hid hle
  have k0' := Lib.hid k0
  have k1' := Lib.hid k1
  have k2' := Lib.hid k2
  have hcall' := Lib.hid hcall
  clear hcall k2 k1 k0 hle q2 q1 p2 p1 hy0 hx0 hL
  go_enter Try.func22, Try.ntmps22
  go_wp2_with (fail)
  clear hW0
  go_at_call 61
  refine hcall'.out.mono ?_
  rintro e W1 ⟨hle1, v1, cc, rfl, hres⟩
  have hresF := hres.form
  obtain ⟨s5, A5, n5, c5, s6, A6, n6, c6, rfl⟩ := hresF
  have k9 := (hle1.block _ (Array.getElem?_eq_some_iff.1 k2'.out).1).trans k2'.out
  have hle9 := fun u0 u1 u2 u3 => le_set4 (u0 := u0) (u1 := u1) (u2 := u2) (u3 := u3) (hle'.out.trans hle1) (show w.heap.size ≤ w.heap.size + 1 + 1 by omega)
  have hb9 := fun u0 u1 u2 u3 => cells4 (heap_set4 (u0 := u0) (u1 := u1) (u2 := u2) (u3 := u3) k9)
  have hfin := fun u0 u1 u2 u3 => IsRes.box4 (u0 := u0) (u1 := u1) (u2 := u2) (u3 := u3) hres k9
  obtain ⟨f0, f1, f2, f3⟩ := cells4 k9
  have g0 := frozen00 k9 0
  have g1 := frozen00 k9 1
  have g2 := frozen00 k9 2
  have g3 := frozen00 k9 3
  have hle1' := Lib.hid hle1
  have hres' := Lib.hid hres
  have k9' := Lib.hid k9
  have hle9' := Lib.hid hle9
  have hb9' := Lib.hid hb9
  have hfin' := Lib.hid hfin
  clear hfin hb9 hle9 k9 hres hle1
  go_wp2
  obtain ⟨d0, d1, d2, d3⟩ := hb9'.out (.bool s5) (.slice A5 n5 c5) (.bool s6) (.slice A6 n6 c6)
  exact bodyPost_ret (v := .tuple #[.agg #[.bool s5, .slice A5 n5 c5, .bool s6, .slice A6 n6 c6], .int .i64 cc]) (by simp [results, Try.results22, go_sem, d0, d1, d2, d3]) rfl ⟨hle9'.out _ _ _ _, _, _, rfl, hfin'.out _ _ _ _⟩
theorem plain_Div1 : Plain Try.prog 66 := fun _ _ => by kernel_rfl
set_option maxRecDepth 100000 in
set_option maxHeartbeats 2000000 in
theorem opOk_Div1 : OpOk Try.prog 66 divE := by
  intro a b va vb w ha hb hva hvb
  have hva0 := hva
  have hvb0 := hvb
  obtain ⟨An, cn, Ad, cd, rfl, -, -⟩ := hva.form
  obtain ⟨Bn, dn, Bd, dd, rfl, -, -⟩ := hvb.form
  obtain ⟨sa, hsa⟩ : ∃ sa, rneg a = sa := ⟨_, rfl⟩
  obtain ⟨sb, hsb⟩ : ∃ sb, rneg b = sb := ⟨_, rfl⟩
  rw [hsa] at hva0 ⊢
  rw [hsb] at hvb0 ⊢
  obtain ⟨W0, hW0, hsz, hle, k0, k1, k2⟩ := new3_le w (.cells #[.bool sa, .slice An (dg (rnum a)).length cn, .slice Ad (dg a.den).length cd] 59) (.cells #[.bool sb, .slice Bn (dg (rnum b)).length dn, .slice Bd (dg b.den).length dd] 59) (.cells #[.bool false, .slice none 0 0, .slice none 0 0] 59)
  obtain ⟨a0, a1, a2, -⟩ := cells3 k0
  obtain ⟨b0, b1, b2, -⟩ := cells3 k1
  obtain ⟨sg9, hsg9⟩ : ∃ sg9, rsgn b = sg9 := ⟨_, rfl⟩
  have hs := pf_rsign (fun _ => True) b _ W0 (hvb0.le hle)
  rw [hsg9] at hs
  show Calls _ _ _ _ (fun e W' => _)
  have hva' := Lib.hid hva
  have hvb' := Lib.hid hvb
  have hva0' := Lib.hid hva0
  have hvb0' := Lib.hid hvb0
  have hsa' := Lib.hid hsa
  have hsb' := Lib.hid hsb
  have hle' := Lib.hid hle
  have k0' := Lib.hid k0
  have k1' := Lib.hid k1
  have k2' := Lib.hid k2
  have hs' := Lib.hid hs
  have ha' := Lib.hid ha
  have hb' := Lib.hid hb
  clear hb ha hs k2 k1 k0 hle hsb hsa hvb0 hva0 hvb hva
  by_cases hb0 : b = 0
  · have h9 : sg9 = 0 := by rw [← hsg9]; exact rsgn_zero.2 hb0
    have hdv : divE a b = .error 11 := by unfold divE; rw [if_pos hb0]
    subst h9
    have hpost : ∀ (e : Ending) (W' : World), (Le w W' ∧ e = .panicked (flt 11)) → (Le w W' ∧ ((∃ r v, divE a b = outR r ∧ e = .returned v ∧ RatL (fun _ => True) .u32 W' v r) ∨ (∃ c, divE a b = .error c ∧ e = .panicked (flt c)))) := fun e W' ⟨h1, h2⟩ => ⟨h1, .inr ⟨11, hdv, h2⟩⟩
    refine Calls.mono ?_ hpost
    clear hpost
    have hb0' := Lib.hid hb0
    have hdv' := Lib.hid hdv
    have hsg9' := Lib.hid hsg9
    clear hsg9 hdv hb0
    go_enter Try.func66, Try.ntmps66
    go_wp2_with (fail)
    clear hW0
    go_at_call 37
    refine hs'.out.mono ?_
    rintro e W1 ⟨rfl, hle1⟩
    have hle2 := hle'.out.trans hle1
    have hle1' := Lib.hid hle1
    have hle2' := Lib.hid hle2
    clear hle2 hle1
    go_wp2_with (fail)
    go_at_call 44
    refine (pf_must_no _ _).mono ?_
    rintro e W2 ⟨rfl, rfl⟩
    go_wp2_with (fail)
    exact ⟨rfl, hle2'.out, rfl⟩
  · have h9 : (sg9 != 0) = true := by have : ¬ sg9 = 0 := fun h => hb0 (rsgn_zero.1 (hsg9.trans h)); simpa using this
    have h10 : ¬ sg9 = 0 := fun h => hb0 (rsgn_zero.1 (hsg9.trans h))
    have h11 : (sg9 == 0) = false := beq_eq_false_iff_ne.2 h10
    have hdv : divE a b = outR (a / b) := by unfold divE; rw [if_neg hb0]
    obtain ⟨R, hR⟩ : ∃ R, a / b = R := ⟨_, rfl⟩
    rw [hR] at hdv
    have hpost : ∀ (e : Ending) (W' : World), (Le w W' ∧ ∃ v, e = .returned v ∧ RatL (fun _ => True) .u32 W' v R) → (Le w W' ∧ ((∃ r v, divE a b = outR r ∧ e = .returned v ∧ RatL (fun _ => True) .u32 W' v r) ∨ (∃ c, divE a b = .error c ∧ e = .panicked (flt c)))) := fun e W' ⟨h1, v, h2, h3⟩ => ⟨h1, .inl ⟨R, v, hdv, h2, h3⟩⟩
    refine Calls.mono ?_ hpost
    clear hpost
    have hb0' := Lib.hid hb0
    clear hb0
    have hdv' := Lib.hid hdv
    have hsg9' := Lib.hid hsg9
    have hR' := Lib.hid hR
    clear hR hsg9 hdv
    go_enter Try.func66, Try.ntmps66
    go_wp2_with (fail)
    clear hW0
    go_at_call 37
    refine hs'.out.mono ?_
    rintro e W1 ⟨rfl, hle1⟩
    have hle2 := hle'.out.trans hle1
    have k01 := (hle1.block _ (by omega)).trans k0'.out
    have k11 := (hle1.block _ (by omega)).trans k1'.out
    have k21 := (hle1.block _ (by omega)).trans k2'.out
    clear a0 a1 a2 b0 b1 b2
    obtain ⟨a0, a1, a2, -⟩ := cells3 k01
    obtain ⟨b0, b1, b2, -⟩ := cells3 k11
    have hov := pf_rover (fun _ => True) a b _ _ W1 (Up.any _) (hva0'.out.le hle2) (hvb0'.out.le hle2) (ha'.out.up (by decide)) (hb'.out.up (by decide)) hb0'.out
    rw [hR'.out] at hov
    have hle1' := Lib.hid hle1
    have hle2' := Lib.hid hle2
    have k01' := Lib.hid k01
    have k11' := Lib.hid k11
    have k21' := Lib.hid k21
    have hov' := Lib.hid hov
    clear hov k21 k11 k01 hle2 hle1
    go_wp2_with (fail)
    go_at_call 44
    refine (pf_must_ok _ _).mono ?_
    rintro e W2 ⟨rfl, rfl⟩
    go_wp2_with (fail)
    go_at_call 54
    refine hov'.out.mono ?_
    rintro e W3 ⟨v3, rfl, hle3, hr3⟩
    have hr4 := hr3
    obtain ⟨Cn, en, Cd, ed, rfl, -, -⟩ := hr3.form
    have k23 := (hle3.block _ (Array.getElem?_eq_some_iff.1 k21'.out).1).trans k21'.out
    obtain ⟨z0, z1, z2, f0, f1, f2⟩ := cells3 k23
    have hle9 := fun u0 u1 u2 => le_set3 (u0 := u0) (u1 := u1) (u2 := u2) (hle2'.out.trans hle3) (show w.heap.size ≤ w.heap.size + 1 + 1 by omega)
    have hb9 := fun u0 u1 u2 => cells3 (heap_set3 (u0 := u0) (u1 := u1) (u2 := u2) k23)
    have hfin := fun u0 u1 u2 => RatL.box3 (u0 := u0) (u1 := u1) (u2 := u2) hr4 k23
    obtain ⟨sr, hsr⟩ : ∃ sr, rneg R = sr := ⟨_, rfl⟩
    rw [hsr] at hfin ⊢
    have hle3' := Lib.hid hle3
    have hr3' := Lib.hid hr3
    have hr4' := Lib.hid hr4
    have k23' := Lib.hid k23
    have hle9' := Lib.hid hle9
    have hb9' := Lib.hid hb9
    have hfin' := Lib.hid hfin
    have hsr' := Lib.hid hsr
    clear hsr hfin hb9 hle9 k23 hr4 hr3 hle3
    go_wp2
    obtain ⟨d0, d1, d2, -⟩ := hb9'.out (.bool sr) (.slice Cn (dg (rnum R)).length en) (.slice Cd (dg R.den).length ed)
    exact bodyPost_ret (v := .agg #[.bool sr, .slice Cn (dg (rnum R)).length en, .slice Cd (dg R.den).length ed]) (by simp [results, Try.results66, go_sem, d0, d1, d2]) rfl ⟨hle9'.out _ _ _, _, rfl, hfin'.out _ _ _⟩
set_option maxRecDepth 100000 in
set_option maxHeartbeats 2000000 in
theorem pf_Div (L : Nat → Prop) (x y : FracA) (va vb : Value) (w : World) (hL : Up w L) (h1 : IsFracA (fun _ => True) w va x) (h2 : IsFracA (fun _ => True) w vb y) :
    Calls Try.prog 24 #[va, vb] w (ResPost L (opR divE x y) w) := by
  have hx0 := h1
  have hy0 := h2
  obtain ⟨A, c, A', c', rfl, p1, p2⟩ := h1
  obtain ⟨B, d, B', d', rfl, q1, q2⟩ := h2
  obtain ⟨W0, hW0, hsz, hle, k0, k1, k2⟩ := new3_le w (.cells #[.bool x.sn, .slice A x.gn.length c, .bool x.sd, .slice A' x.gd.length c'] 26) (.cells #[.bool y.sn, .slice B y.gn.length d, .bool y.sd, .slice B' y.gd.length d'] 26) (.cells #[.bool false, .slice none 0 0, .bool false, .slice none 0 0] 26)
  obtain ⟨a0, a1, a2, a3⟩ := cells4 k0
  obtain ⟨b0, b1, b2, b3⟩ := cells4 k1
  have hcall := pf_operated L x y divE 66 _ _ W0 (hL.le hle) (hx0.le hle) (hy0.le hle) plain_Div1 opOk_Div1
  have hL' := Lib.hid hL
  have hx0' := Lib.hid hx0
  have hy0' := Lib.hid hy0
  have p1' := Lib.hid p1
  have p2' := Lib.hid p2
  have q1' := Lib.hid q1
  have q2' := Lib.hid q2
  have hle' := Lib.hid hle
  have k0' := Lib.hid k0
  have k1' := Lib.hid k1
  have k2' := Lib.hid k2
  have hcall' := Lib.hid hcall
  clear hcall k2 k1 k0 hle q2 q1 p2 p1 hy0 hx0 hL
  go_enter Try.func24, Try.ntmps24
  go_wp2_with (fail)
  clear hW0
  go_at_call 61
  refine hcall'.out.mono ?_
  rintro e W1 ⟨hle1, v1, cc, rfl, hres⟩
  have hresF := hres.form
  obtain ⟨s5, A5, n5, c5, s6, A6, n6, c6, rfl⟩ := hresF
  have k9 := (hle1.block _ (Array.getElem?_eq_some_iff.1 k2'.out).1).trans k2'.out
  have hle9 := fun u0 u1 u2 u3 => le_set4 (u0 := u0) (u1 := u1) (u2 := u2) (u3 := u3) (hle'.out.trans hle1) (show w.heap.size ≤ w.heap.size + 1 + 1 by omega)
  have hb9 := fun u0 u1 u2 u3 => cells4 (heap_set4 (u0 := u0) (u1 := u1) (u2 := u2) (u3 := u3) k9)
  have hfin := fun u0 u1 u2 u3 => IsRes.box4 (u0 := u0) (u1 := u1) (u2 := u2) (u3 := u3) hres k9
  obtain ⟨f0, f1, f2, f3⟩ := cells4 k9
  have g0 := frozen00 k9 0
  have g1 := frozen00 k9 1
  have g2 := frozen00 k9 2
  have g3 := frozen00 k9 3
  have hle1' := Lib.hid hle1
  have hres' := Lib.hid hres
  have k9' := Lib.hid k9
  have hle9' := Lib.hid hle9
  have hb9' := Lib.hid hb9
  have hfin' := Lib.hid hfin
  clear hfin hb9 hle9 k9 hres hle1
  go_wp2
  obtain ⟨d0, d1, d2, d3⟩ := hb9'.out (.bool s5) (.slice A5 n5 c5) (.bool s6) (.slice A6 n6 c6)
  exact bodyPost_ret (v := .tuple #[.agg #[.bool s5, .slice A5 n5 c5, .bool s6, .slice A6 n6 c6], .int .i64 cc]) (by simp [results, Try.results24, go_sem, d0, d1, d2, d3]) rfl ⟨hle9'.out _ _ _ _, _, _, rfl, hfin'.out _ _ _ _⟩
theorem pf_run_int_cmp (x y : FracA) (g : FuncId) (cap : Array Value) (w : World) (hg : Plain Try.prog g) (hf : ∀ W, Le w W → Calls Try.prog g cap W (CmpPost x y W)) :
    Calls Try.prog 33 #[.func (.func g) #[] cap] w fun e w' => e = .returned (.tuple #[.int .i64 (cmpV x y), .int .i64 (okE (okA x && okA y))]) ∧ Le w w' := by
  cases hb : (okA x && okA y) with
  | true =>
    refine (pf_run_int_ok g cap (cmpV x y) w hg fun W hW => (hf W hW).mono fun e W' h => ?_).mono fun e w' h => h
    obtain ⟨hle, ⟨-, rfl⟩ | ⟨hb2, -⟩⟩ := h
    · exact ⟨rfl, hle⟩
    · rw [hb] at hb2; cases hb2
  | false =>
    rw [cmpV_none hb]
    refine (pf_run_int_err g cap 10 w hg fun W hW => (hf W hW).mono fun e W' h => ?_).mono fun e w' h => h
    obtain ⟨hle, ⟨hb2, -⟩ | ⟨-, rfl⟩⟩ := h
    · rw [hb] at hb2; cases hb2
    · exact ⟨rfl, hle⟩
set_option maxRecDepth 100000 in
theorem pf_Compare (x y : FracA) (va vb : Value) (w : World) (h1 : IsFracA (fun _ => True) w va x) (h2 : IsFracA (fun _ => True) w vb y) :
    Calls Try.prog 7 #[va, vb] w fun e w' => e = .returned (.tuple #[.int .i64 (cmpV x y), .int .i64 (okE (okA x && okA y))]) ∧ Le w w' := by
  have hx0 := h1
  have hy0 := h2
  obtain ⟨A, c, A', c', rfl, p1, p2⟩ := h1
  obtain ⟨B, d, B', d', rfl, q1, q2⟩ := h2
  obtain ⟨W0, hW0, hsz, hle, k0, k1⟩ := new2_le w (.cells #[.bool x.sn, .slice A x.gn.length c, .bool x.sd, .slice A' x.gd.length c'] 26) (.cells #[.bool y.sn, .slice B y.gn.length d, .bool y.sd, .slice B' y.gd.length d'] 26)
  have hmf : ∀ (fn : Fn) (first cap : Array Value) (w : World), (Instr.makeFunc fn first cap).run Try.prog w = .ok (.func fn first cap) w := fun _ _ _ _ => rfl
  have hrun := pf_run_int_cmp x y _ #[.pointer (some ⟨w.heap.size, 0, none⟩), .pointer (some ⟨w.heap.size + 1, 0, none⟩)] W0 plain_Compare1 fun W hW =>
    pf_Compare1 x y _ _ _ _ W (FBox.mk hx0 (hle.trans hW) ((hW.block _ (by omega)).trans k0)) (FBox.mk hy0 (hle.trans hW) ((hW.block _ (by omega)).trans k1))
  obtain ⟨cv, hcv⟩ : ∃ cv, cmpV x y = cv := ⟨_, rfl⟩
  obtain ⟨ev, hev⟩ : ∃ ev, okE (okA x && okA y) = ev := ⟨_, rfl⟩
  rw [hcv, hev] at hrun ⊢
  have hx0' := Lib.hid hx0
  have hy0' := Lib.hid hy0
  have p1' := Lib.hid p1
  have p2' := Lib.hid p2
  have q1' := Lib.hid q1
  have q2' := Lib.hid q2
  have hle' := Lib.hid hle
  have k0' := Lib.hid k0
  have k1' := Lib.hid k1
  have hrun' := Lib.hid hrun
  have hcv' := Lib.hid hcv
  have hev' := Lib.hid hev
  clear hev hcv hrun k1 k0 hle q2 q1 p2 p1 hy0 hx0
  go_enter Try.func7, Try.ntmps7
  go_wp2_with (fail)
  clear hW0
  go_at_call 33
  refine hrun'.out.mono ?_
  rintro e W1 ⟨rfl, hle1⟩
  have hle2 := hle'.out.trans hle1
  have hle1' := Lib.hid hle1
  have hle2' := Lib.hid hle2
  clear hle2 hle1
  go_wp2
  go_ret2
  exact ⟨rfl, hle2'.out⟩
end Go.Proofs.Ytemdemfknnkcaaa
