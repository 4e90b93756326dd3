/- motion.place: the place of a path at a moment. motion.nearest, barleycornref02.spot: the spot of a place. -/
import Derived.Test.YtlhfonhbbpbmpaaGreatPlaceP
import Derived.Test.YtlhfonhbbpbmpaaGreatTOp5
import Derived.Test.YtlhfonhbbpbmpaaGreatTOpA
import Derived.Test.YtlhfonhbbpbmpaaGreatNear
import Derived.Test.YtlhfonhbbpbmpaaGreatRS4
namespace Go.Proofs.YtlhfonhbbpbmpaaGreat
set_option maxRecDepth 100000
set_option maxHeartbeats 8000000
open Go.RowKit Go.ChangeShapes Go.WideShapes Go.Deep
set_option linter.unusedVariables false
set_option linter.unusedSimpArgs false
attribute [local go_sem] Oper.semAt_some
abbrev qAb : Array Value := #[.bool false, .slice none 0 0, .bool false, .slice none 0 0, .bool false, .slice none 0 0, .bool false, .slice none 0 0]
theorem IsTurnA.form {w : World} {v : Value} {x : FracA × FracA} (h : IsTurnA w v x) : qJo v := by
 obtain ⟨A1, c1, B1, d1, A2, c2, B2, d2, rfl, -, -⟩ := h
 exact ⟨_, _, _, _, _, _, _, _, _, _, _, _, _, _, _, _, rfl⟩
theorem TurnF.aform {w : World} {v : Value} {g : G2} (h : TurnF w v g) : qJo v := by
 obtain ⟨s1, A1, n1, c1, t1, B1, m1, d1, s2, A2, n2, c2, t2, B2, m2, d2, rfl, -, -⟩ := h
 exact ⟨_, _, _, _, _, _, _, _, _, _, _, _, _, _, _, _, rfl⟩
def Box8 (t : TypeId) (W : World) (B : Nat) (g : G2) : Prop :=
 ∃ s1 A1 n1 c1 t1 B1 m1 d1 s2 A2 n2 c2 t2 B2 m2 d2, W.heap[B]? = some (.cells #[.bool s1, .slice A1 n1 c1, .bool t1, .slice B1 m1 d1, .bool s2, .slice A2 n2 c2, .bool t2, .slice B2 m2 d2] t) ∧
  TurnF W (.agg #[.bool s1, .slice A1 n1 c1, .bool t1, .slice B1 m1 d1, .bool s2, .slice A2 n2 c2, .bool t2, .slice B2 m2 d2]) g
theorem Box8.kc {t : TypeId} {W W' : World} {B : Nat} {g : G2} (h : Box8 t W B g) (hk : KC W W') : Box8 t W' B g := by
 obtain ⟨s1, A1, n1, c1, t1, B1, m1, d1, s2, A2, n2, c2, t2, B2, m2, d2, h1, h2⟩ := h
 exact ⟨s1, A1, n1, c1, t1, B1, m1, d1, s2, A2, n2, c2, t2, B2, m2, d2, hk.at h1, h2.kc hk⟩
theorem KC.of_le {W W' : World} (h : Le W W') : KC W W' := ⟨h.size, fun B o hB _ => bxl h hB⟩
theorem qCb {n : Nat} {w W : World} {X : Nat} (h : Below n w W) (hX : n ≤ X) (u0 u1 u2 u3 u4 u5 u6 u7 : Value) : Below n w (set8 W X u0 u1 u2 u3 u4 u5 u6 u7) :=
 (((((((Below.setCell h (p := ⟨X, 0, none⟩) hX _).setCell (p := ⟨X, 1, none⟩) hX _).setCell (p := ⟨X, 2, none⟩) hX _).setCell (p := ⟨X, 3, none⟩) hX _).setCell (p := ⟨X, 4, none⟩) hX _).setCell (p := ⟨X, 5, none⟩) hX _).setCell (p := ⟨X, 6, none⟩) hX _).setCell (p := ⟨X, 7, none⟩) hX _
theorem qEi (B : Nat) (W : World) (X : Nat) (u0 u1 u2 u3 u4 u5 u6 u7 : Value) : KeepsFrom B W (set8 W X u0 u1 u2 u3 u4 u5 u6 u7) :=
 ((((((((KeepsOthers.setCell W _ u0).from B).trans ((KeepsOthers.setCell _ _ u1).from B)).trans ((KeepsOthers.setCell _ _ u2).from B)).trans ((KeepsOthers.setCell _ _ u3).from B)).trans ((KeepsOthers.setCell _ _ u4).from B)).trans ((KeepsOthers.setCell _ _ u5).from B)).trans ((KeepsOthers.setCell _ _ u6).from B)).trans ((KeepsOthers.setCell _ _ u7).from B)
structure PlI (w W0 : World) (t4 t5 : TypeId) (cu : Array Value) (Bn B6 : Nat) (l : List ArmA) (u : FracA × FracA) (pre : List (Fin l.length)) (W : World) : Prop where
 kept : Kept w.heap.size [Bn] W0 W
 size : W0.heap.size ≤ W.heap.size
 bu : W.heap[w.heap.size]? = some (.cells cu t4)
 r4 : W.heap[w.heap.size + 1]? = some (.cells qAb t4)
 r5 : W.heap[w.heap.size + 2]? = some (.cells #[.int .i64 0] t5)
 sum : ∃ s, Box8 t4 W B6 s ∧ TSz s 40 ∧ (pre <+: List.finRange l.length → qAc u (0, 0) l = qAc u s (l.drop pre.length))
theorem PlI.from (w W0 : World) (t4 t5 : TypeId) (cu : Array Value) (Bn B6 : Nat) (l : List ArmA) (u : FracA × FracA) (hs : w.heap.size + 3 ≤ W0.heap.size) (hn : Bn < W0.heap.size) : OwnFrom W0.heap.size (PlI w W0 t4 t5 cu Bn B6 l u) := by
 rintro s X Y row ⟨h1, h2, h3, h4, h5, g, h6, h7, h8⟩ hg hrow
 have hkc : KC X Y := KC.of_grown hg fun r e => (hrow r e).2
 exact ⟨h1.trans ⟨(Below.refl _ _).grown hg (by omega) fun k e => by have := (hrow k e).1; omega, fun B hB => hg.block B (by simp at hB; omega) (fun e => by have := (hrow _ e.symm).1; simp at hB; omega)⟩, Nat.le_trans h2 hg.size, hkc.at h3, hkc.at h4, hkc.at h5, g, h6.kc hkc, h7, h8⟩
structure PlX (w : World) (t4 t5 : TypeId) (l : List ArmA) (u : FracA × FracA) (c : Code) (pre : List (Fin l.length)) (W : World) : Prop where
 code : c = .ret
 below : Below w.heap.size w W
 r4 : W.heap[w.heap.size + 1]? = some (.cells qAb t4)
 err : ∃ z : Int, W.heap[w.heap.size + 2]? = some (.cells #[.int .i64 z] t5) ∧ (pre <+: List.finRange l.length → qAc u (0, 0) l = .error z)
theorem PlX.from (w : World) (t4 t5 : TypeId) (l : List ArmA) (u : FracA × FracA) (N0 : Nat) (h : w.heap.size ≤ N0) (c : Code) : OwnFrom N0 (PlX w t4 t5 l u c) := by
 rintro s X Y row ⟨h1, h2, h3, z, h4, h5⟩ hg hrow
 have hkc : KC X Y := KC.of_grown hg fun r e => (hrow r e).2
 exact ⟨h1, h2.grown hg h2.size (fun k e => by have := (hrow k e).1; omega), hkc.at h3, z, hkc.at h4, h5⟩
theorem qGC {g : G2} {c : Int} (h : outG g = .error c) : c ≠ 0 := by
 unfold outG at h
 split at h
 ·cases h
 ·injection h with h; omega
theorem qGD {x : FracA × FracA} {n c : Int} (h : powG x n = .error c) : c ≠ 0 := by
 unfold powG at h
 split at h
 ·split at h
  ·injection h with h; omega
  ·split at h
   ·split at h
    ·injection h with h; omega
    ·exact qGC h
   ·exact qGC h
 ·injection h with h; omega
theorem qDi {f : G2 → G2 → G2} {x y : FracA × FracA} {c : Int} (h : opG (fun a b => outG (f a b)) x y = .error c) : c ≠ 0 := by
 unfold opG at h
 split at h
 ·exact qGC h
 ·injection h with h; omega
theorem qDI {w W : World} {k : Nat} {g : G2} {t : TypeId} {fs1 ft1 fs2 ft2 : Bool} {fA1 fB1 fA2 fB2 : Option Addr} {fn1 fc1 fm1 fd1 fn2 fc2 fm2 fd2 : Nat} {os1 ot1 os2 ot2 : Bool} {oA1 oB1 oA2 oB2 : Option Addr} {on1 oc1 om1 od1 on2 oc2 om2 od2 : Nat} (hR : Le w W) (hk : w.heap.size ≤ k) (hx : W.heap[k]? = some (.cells #[.bool os1, .slice oA1 on1 oc1, .bool ot1, .slice oB1 om1 od1, .bool os2, .slice oA2 on2 oc2, .bool ot2, .slice oB2 om2 od2] t)) (hf : TurnF W (.agg #[.bool fs1, .slice fA1 fn1 fc1, .bool ft1, .slice fB1 fm1 fd1, .bool fs2, .slice fA2 fn2 fc2, .bool ft2, .slice fB2 fm2 fd2]) g) :
  ∃ V, ((((((((W.setCell ⟨k, 0, none⟩ (.bool fs1)).setCell ⟨k, 1, none⟩ (.slice fA1 fn1 fc1)).setCell ⟨k, 2, none⟩ (.bool ft1)).setCell ⟨k, 3, none⟩ (.slice fB1 fm1 fd1)).setCell ⟨k, 4, none⟩ (.bool fs2)).setCell ⟨k, 5, none⟩ (.slice fA2 fn2 fc2)).setCell ⟨k, 6, none⟩ (.bool ft2)).setCell ⟨k, 7, none⟩ (.slice fB2 fm2 fd2)) = V ∧ Le w V ∧ V.heap[k]? = some (.cells #[.bool fs1, .slice fA1 fn1 fc1, .bool ft1, .slice fB1 fm1 fd1, .bool fs2, .slice fA2 fn2 fc2, .bool ft2, .slice fB2 fm2 fd2] t) ∧ TurnF V (.agg #[.bool fs1, .slice fA1 fn1 fc1, .bool ft1, .slice fB1 fm1 fd1, .bool fs2, .slice fA2 fn2 fc2, .bool ft2, .slice fB2 fm2 fd2]) g :=
 ⟨_, rfl, qAW hR hk _ _ _ _ _ _ _ _, qAI hx _ _ _ _ _ _ _ _, hf.touch (qA9 hx) (qAL _ _ _ _ _ _ _ _ _ _)⟩
theorem qBA {w W : World} {k : Nat} (hR : Le w W) (hk : w.heap.size ≤ k) : ∃ V, ((((((((W.setCell ⟨k, 0, none⟩ (.bool false)).setCell ⟨k, 1, none⟩ (.slice none 0 0)).setCell ⟨k, 2, none⟩ (.bool false)).setCell ⟨k, 3, none⟩ (.slice none 0 0)).setCell ⟨k, 4, none⟩ (.bool false)).setCell ⟨k, 5, none⟩ (.slice none 0 0)).setCell ⟨k, 6, none⟩ (.bool false)).setCell ⟨k, 7, none⟩ (.slice none 0 0)) = V ∧ Le w V := ⟨_, rfl, qAW hR hk _ _ _ _ _ _ _ _⟩
theorem qHF {u : FracA × FracA} {s : G2} {k z : Int} {c : FracA × FracA} (h : powG u k = .error z) : armG u s ⟨k, c⟩ = .error z := by unfold armG; rw [h]
theorem qHG {u : FracA × FracA} {s x : G2} {k z : Int} {c : FracA × FracA} (h : powG u k = .ok x) (h2 : mulG c (qAS x) = .error z) : armG u s ⟨k, c⟩ = .error z := by
 unfold armG; rw [h]; simp only; rw [h2]
theorem qEY {u : FracA × FracA} {s x y : G2} {k : Int} {c : FracA × FracA} (h : powG u k = .ok x) (h2 : mulG c (qAS x) = .ok y) : armG u s ⟨k, c⟩ = qFX (qAS s) (qAS y) := by
 unfold armG; rw [h]; simp only; rw [h2]
theorem qGe (l : List ArmA) (u : FracA × FracA) (v vu : Value) (w : World) (hv : ArmsL w v l) (hu : IsTurnA w vu u) (hz : ∀ g, tval u = some g → TSz g 2) (hl : l.length ≤ 1000) :
  Calls Tryz.prog 19 #[v, vu] w (qAa (qAc u (0, 0) l) w) := by
 obtain ⟨tv, hv⟩ := hv.vals
 have hv0 := hv
 obtain ⟨A, c, rfl, hlc, hcm, hAN, hki, htv, hr⟩ := hv
 unfold maxLen at hcm
 have hu0 := hu
 obtain ⟨us1, uA1, un1, uc1, ut1, uB1, um1, ud1, us2, uA2, un2, uc2, ut2, uB2, um2, ud2, rfl⟩ := hu.form
 clear hu
 obtain ⟨Wa, hWa, hsa, hBa, q0, q1, q2⟩ := qCy w (.cells #[.bool us1, .slice uA1 un1 uc1, .bool ut1, .slice uB1 um1 ud1, .bool us2, .slice uA2 un2 uc2, .bool ut2, .slice uB2 um2 ud2] 29) (.cells qAb 29) (.cells #[.int .i64 0] 32)
 have hs3 : w.heap.size + 3 ≤ Wa.heap.size := by omega
 clear hsa
 have ⟨hv0', hki', htv', hr', hAN', hu0', hz', hBa'⟩ := hyd8 hv0 hki htv hr hAN hu0 hz hBa
 have ⟨q0', q1', q2'⟩ := hyd3 q0 q1 q2
 clear q2 q1 q0 hBa hz hu0 hAN hr htv hki hv0
 refine (callsIn_wide (n := 5)).1 ?_
 refine callsIn_of_wp_marks Tryz.func19 rfl trivial ?_ rfl
 simp only [Tryz.ntmps19, List.size_toArray, List.length_cons, List.length_nil, Nat.reduceAdd, Nat.reduceSub, Array.replicate_succ, Array.replicate_zero, List.push_toArray, List.append_toArray, List.nil_append, List.cons_append]
 gi_wp2_with (fail)
 refine ⟨trivial, ?_⟩
 gi_at_call 18
 refine (callsIn_wide.2 (qEg (fun _ => True) 0 _ (Up.any _) (by decide) (by decide))).mono ?_
 rintro e Wb ⟨vb, rfl, hleb, hfb⟩
 obtain ⟨ps1, pA1, pn1, pc1, pt1, pB1, pm1, pd1, rfl⟩ := id hfb.fform
 have ⟨hleb', hfb'⟩ := hyd2 hleb hfb
 clear hfb hleb
 gi_wp2_with (fail)
 refine ⟨trivial, ?_⟩
 gi_at_call 18
 refine (callsIn_wide.2 (qEg (fun _ => True) 0 _ (Up.any _) (by decide) (by decide))).mono ?_
 rintro e Wc ⟨vc, rfl, hlec, hfc⟩
 obtain ⟨ps2, pA2, pn2, pc2, pt2, pB2, pm2, pd2, rfl⟩ := id hfc.fform
 obtain ⟨Wd, hWd, hled, kd⟩ := al1 Wc (.cells #[.bool ps1, .slice pA1 pn1 pc1, .bool pt1, .slice pB1 pm1 pd1, .bool ps2, .slice pA2 pn2 pc2, .bool pt2, .slice pB2 pm2 pd2] 29)
 have hsd : Wc.heap.size < Wd.heap.size := (gsl kd)
 have hlead : Le Wa Wd := (hleb'.out.trans hlec).trans hled
 have hsab := hleb'.out.size
 have hsbc := hlec.size
 have hBd : Below w.heap.size w Wd := hBa'.out.trans (hlead.mono (by omega))
 have d0 := bxl hlead q0'.out
 have d1 := bxl hlead q1'.out
 have d2 := bxl hlead q2'.out
 have hsum : Box8 29 Wd Wc.heap.size (0, 0) := ⟨ps1, pA1, pn1, pc1, pt1, pB1, pm1, pd1, ps2, pA2, pn2, pc2, pt2, pB2, pm2, pd2, kd, .mk ((hfb'.out.le hlec).le hled) (hfc.le hled)⟩
 have ⟨hlec', hfc', hled', kd', hlead', hBd', d0', d1'⟩ := hyd8 hlec hfc hled kd hlead hBd d0 d1
 have ⟨d2', hsum'⟩ := hyd2 d2 hsum
 clear hsum d2 d1 d0 hBd hlead kd hled hfc hlec
 gi_wp2_with (fail)
 clear hWd hWa
 refine ⟨trivial, ?_⟩
 gi_at_call 38
 refine (callsIn_wide.2 (qJT _ _ _ _)).mono ?_
 rintro e W0 ⟨rfl, hW0⟩
 have hled0 : Le Wd W0 := by rw [← hW0]; exact qAA _ _
 have hkn : W0.heap[Wd.heap.size]? = some (.cells #[.slice A l.length c] 22) := by rw [← hW0]; exact qFH _ _
 have hsn : Wd.heap.size < W0.heap.size := (gsl hkn)
 clear hW0
 have hB0 : Below w.heap.size w W0 := hBd'.out.trans (hled0.mono (by omega))
 have e0 := bxl hled0 d0'.out
 have e1 := bxl hled0 d1'.out
 have e2 := bxl hled0 d2'.out
 have esum := hsum'.out.kc (KC.of_le hled0)
 have hyield := qFK l _ tv w W0 Wd.heap.size w.heap.size hv0'.out hl hsn (by omega) (Nat.le_refl _) hB0 (qAF hkn)
 have hT0 : TSz (((0 : Int) : Rat), ((0 : Int) : Rat)) 40 := ⟨qDh 0 (by decide) (by decide) |>.up (by decide), qDh 0 (by decide) (by decide) |>.up (by decide)⟩
 have ⟨hled0', hkn', hB0', hT0'⟩ := hyd4 hled0 hkn hB0 hT0
 clear hT0 hB0 hkn hled0
 gi_wp2
 refine qDJ rfl (by omega) (gf := 84) (lb := #[.pointer (some ⟨Wd.heap.size, 0, none⟩)]) rfl trivial (enters_of Tryz.func84 (by kernel_rfl) rfl)
  hyield Kept.trans (Kept.put (by omega) (by simp; omega)) (Below.refl _ _) (fun _ => rfl)
  (PlI w W0 29 32 #[.bool us1, .slice uA1 un1 uc1, .bool ut1, .slice uB1 um1 ud1, .bool us2, .slice uA2 un2 uc2, .bool ut2, .slice uB2 um2 ud2] Wd.heap.size Wc.heap.size l u) (PlX w 29 32 l u) (PlI.from w W0 _ _ _ _ _ l u (by omega) hsn) (PlX.from _ _ _ _ _ _ (by omega)) ⟨Kept.refl _ _ _, Nat.le_refl _, e0, e1, e2, (0, 0), esum, hT0'.out, fun _ => rfl⟩
  (fun x W => { tmps := #[.slice A l.length c, .agg #[.bool us1, .slice uA1 un1 uc1, .bool ut1, .slice uB1 um1 ud1, .bool us2, .slice uA2 un2 uc2, .bool ut2, .slice uB2 um2 ud2], undef, .pointer (some ⟨w.heap.size, 0, none⟩), .pointer (some ⟨w.heap.size + 1, 0, none⟩), .pointer (some ⟨w.heap.size + 1 + 1, 0, none⟩), .pointer (some ⟨Wc.heap.size, 0, none⟩), .int .i64 l[x.1].k, .pointer (some ⟨W.heap.size, 0, none⟩), undef, undef,
   .agg #[.bool ps1, .slice pA1 pn1 pc1, .bool pt1, .slice pB1 pm1 pd1], .agg #[.bool ps2, .slice pA2 pn2 pc2, .bool pt2, .slice pB2 pm2 pd2], .agg #[.bool ps1, .slice pA1 pn1 pc1, .bool pt1, .slice pB1 pm1 pd1, .bool ps2, .slice pA2 pn2 pc2, .bool pt2, .slice pB2 pm2 pd2], .slice A l.length c, .func (.func 84) #[] #[.pointer (some ⟨Wd.heap.size, 0, none⟩)], .int .i64 l[x.1].k, .agg (tv x.1), undef, undef, undef, undef, undef, undef, undef, undef, undef, undef, undef, undef, undef, undef, undef, undef, undef, undef, undef, undef, undef, undef, undef, undef, undef, undef, undef], defers := [] }) (fun x W => W.alloc (.cells (tv x.1) 29)) (fun _ _ => World.grownBy_alloc _ _ _) (fun x W hz => Kept.alloc _ (by omega) (by simp; omega)) ?_ ?_ ?_ ?_
 ·intro la x W K hK
  dsimp only [qG8]
  obtain ⟨b, off, hA, hb, hcc⟩ := hr'.out (by have := x.2; omega)
  obtain ⟨s1, A1, n1, c1, t1, B1, m1, d1, s2, A2, n2, c2, t2, B2, m2, d2, he, -⟩ := hcc x.1 x.2
  rw [he] at hK ⊢
  clear hcc hA hb hyield esum e0 e1 e2
  gi_wp2
  exact hK
 ·rintro la pre x W V ⟨k1, k2, k3, k4, k5, s, k6, k7, k8⟩ hz1 hz2 hcl hlen2
  have hx := x.2
  obtain ⟨b, off, hA, hb, hcc⟩ := hr'.out (by omega)
  obtain ⟨s1, A1, n1, c1, t1, B1, m1, d1, s2, A2, n2, c2, t2, B2, m2, d2, he, -⟩ := hcc x.1 x.2
  have hbox := hcl W.heap.size _ (qFH W _) rfl
  have htx := htv'.out x.1 x.2
  have hbV : Below w.heap.size w V := hB0'.out.trans k1.1
  have htV := htx.le hbV
  have hgd : l.getD x.1 default = l[x.1] := by simp [List.getD_eq_getElem?_getD, List.getElem?_eq_getElem hx]
  have hstep : pre ++ [x] <+: List.finRange l.length → qAc u (0, 0) l = (match armG u s l[x.1] with
    | .error e => .error e
    | .ok t => qAc u t (l.drop (pre ++ [x]).length)) := fun hp => by
   obtain ⟨hp1, hp2⟩ := qCI hp
   rw [k8 hp1, ← hp2, qF7 hx, hgd, List.length_append, List.length_singleton, ← hp2]
   cases armG u s l[x.1] <;> rfl
  obtain ⟨os1, oA1, on1, oc1, ot1, oB1, om1, od1, os2, oA2, on2, oc2, ot2, oB2, om2, od2, kold, hfold⟩ := k6
  have hbad : ∀ (W' : World) (z : Int) (hk : KeepsFrom W0.heap.size V W') (hb : Below w.heap.size w W') (h4 : W'.heap[w.heap.size + 1]? = some (.cells qAb 29)) (h5 : W'.heap[w.heap.size + 2]? = some (.cells #[.int .i64 0] 32)) (he : armG u s l[x.1] = .error z) (aa : Act),
    ownPostG W0.heap.size (Kept w.heap.size [Wd.heap.size]) (PlI w W0 29 32 #[.bool us1, .slice uA1 un1 uc1, .bool ut1, .slice uB1 um1 ud1, .bool us2, .slice uA2 un2 uc2, .bool ut2, .slice uB2 um2 ud2] Wd.heap.size Wc.heap.size l u) (PlX w 29 32 l u) (pre ++ [x]) V .ret aa ((set8 W' (w.heap.size + 1) (.bool false) (.slice none 0 0) (.bool false) (.slice none 0 0) (.bool false) (.slice none 0 0) (.bool false) (.slice none 0 0)).setCell ⟨w.heap.size + 1 + 1, 0, none⟩ (.int .i64 z)) := fun W' z hk hb h4 h5 he aa =>
   ⟨(hk.trans (qEi _ _ _ _ _ _ _ _ _ _ _)).trans ((KeepsOthers.setCell _ _ _).from _), rfl, (qCb hb (by omega) _ _ _ _ _ _ _ _).setCell (p := ⟨w.heap.size + 1 + 1, 0, none⟩) (by show w.heap.size ≤ w.heap.size + 1 + 1; omega) _,
    (Below.heap_setCell _ _ _ _ (show w.heap.size + 1 ≠ w.heap.size + 1 + 1 by omega)).trans (qAI h4 _ _ _ _ _ _ _ _), z, qA5 (((qAL W' (w.heap.size + 1) _ _ _ _ _ _ _ _).2.1 _ (show w.heap.size + 2 ≠ w.heap.size + 1 by omega)).trans h5), fun hp => by rw [hstep hp, he]⟩
  have hgood : ∀ (w4 : World) (s' : G2) (ns1 : Bool) (nA1 : Option Addr) (nn1 nc1 : Nat) (nt1 : Bool) (nB1 : Option Addr) (nm1 nd1 : Nat) (ns2 : Bool) (nA2 : Option Addr) (nn2 nc2 : Nat) (nt2 : Bool) (nB2 : Option Addr) (nm2 nd2 : Nat) (hle : Le V w4) (hf : TurnF w4 (.agg #[.bool ns1, .slice nA1 nn1 nc1, .bool nt1, .slice nB1 nm1 nd1, .bool ns2, .slice nA2 nn2 nc2, .bool nt2, .slice nB2 nm2 nd2]) s') (he : armG u s l[x.1] = .ok s') (aa : Act),
    ownPostG W0.heap.size (Kept w.heap.size [Wd.heap.size]) (PlI w W0 29 32 #[.bool us1, .slice uA1 un1 uc1, .bool ut1, .slice uB1 um1 ud1, .bool us2, .slice uA2 un2 uc2, .bool ut2, .slice uB2 um2 ud2] Wd.heap.size Wc.heap.size l u) (PlX w 29 32 l u) (pre ++ [x]) V .normal aa (set8 w4 Wc.heap.size (.bool ns1) (.slice nA1 nn1 nc1) (.bool nt1) (.slice nB1 nm1 nd1) (.bool ns2) (.slice nA2 nn2 nc2) (.bool nt2) (.slice nB2 nm2 nd2)) := fun w4 s' ns1 nA1 nn1 nc1 nt1 nB1 nm1 nd1 ns2 nA2 nn2 nc2 nt2 nB2 nm2 nd2 hle hf he aa => by
   have hB6 := bxl hle kold
   have ht := qAL w4 Wc.heap.size (.bool ns1) (.slice nA1 nn1 nc1) (.bool nt1) (.slice nB1 nm1 nd1) (.bool ns2) (.slice nA2 nn2 nc2) (.bool nt2) (.slice nB2 nm2 nd2)
   have hkp : Kept w.heap.size [Wd.heap.size] V (set8 w4 Wc.heap.size (.bool ns1) (.slice nA1 nn1 nc1) (.bool nt1) (.slice nB1 nm1 nd1) (.bool ns2) (.slice nA2 nn2 nc2) (.bool nt2) (.slice nB2 nm2 nd2)) :=
    ⟨qCb (hle.mono (by omega)) (by omega) _ _ _ _ _ _ _ _, fun B hB => (ht.2.1 _ (by simp at hB; omega)).trans (hle.block _ (by simp at hB; omega))⟩
   exact ⟨(qBx hle _).trans (qEi _ _ _ _ _ _ _ _ _ _ _), hkp, k1.trans hkp, by rw [ht.1]; exact Nat.le_trans k2 hle.size, (ht.2.1 _ (by omega)).trans (bxl hle k3), (ht.2.1 _ (by omega)).trans (bxl hle k4), (ht.2.1 _ (by omega)).trans (bxl hle k5), s',
    ⟨ns1, nA1, nn1, nc1, nt1, nB1, nm1, nd1, ns2, nA2, nn2, nc2, nt2, nB2, nm2, nd2, qAI hB6 _ _ _ _ _ _ _ _, hf.touch (qA9 hB6) ht⟩, qLe he, fun hp => by rw [hstep hp, he]⟩
  rw [he] at hbox htV ⊢
  obtain ⟨yc, hyc⟩ : ∃ y, l[x.1] = y := ⟨_, rfl⟩
  rw [hyc] at hbad hgood htV ⊢
  have hki1 := hki'.out _ (List.getElem_mem hx)
  rw [hyc] at hki1
  clear hyield hcc hA hb hcl hstep k8 htx hgd hyc he
  obtain ⟨kk, yt⟩ := yc
  dsimp only at htV hki1 ⊢
  obtain ⟨BB, hBB⟩ : ∃ BB, W.heap.size = BB := ⟨_, rfl⟩
  rw [hBB] at hbox ⊢
  obtain ⟨ca0, ca1, ca2, ca3, ca4, ca5, ca6, ca7⟩ := qAB k3
  have hpow := fun W' (hle : Le V W') => qIb u kk _ W' (hu0'.out.le (hbV.trans (hle.mono (by omega)))) hz'.out
  have hBV : BB < V.heap.size := (gsl hbox)
  have hRV : W0.heap.size ≤ V.heap.size := k2
  have ⟨hbad', hgood', hbox', htV', hbV', k1', k2', hBB'⟩ := hyd8 hbad hgood hbox htV hbV k1 k2 hBB
  have ⟨hz2', hz1', e0', e1', e2', esum', kold', hfold'⟩ := hyd8 hz2 hz1 e0 e1 e2 esum kold hfold
  have ⟨k3', k4', k5', k7', hpow'⟩ := hyd5 k3 k4 k5 k7 hpow
  clear hpow k7 k5 k4 k3 hfold kold esum e2 e1 e0 hz1 hz2 hBB k2 k1 hbV htV hbox hgood hbad
  gi_wp2_with (fail)
  refine ⟨trivial, ?_⟩
  gi_at_call 29
  refine (CallsIn.inRound la (callsIn_wide.2 (hpow'.out V (Le.refl _)))).mono ?_
  rintro e w1 ⟨hle1, v1, cc, rfl, hr1⟩
  clear ca0 ca1 ca2 ca3 ca4 ca5 ca6 ca7
  cases hP : powG u kk with
  | error z =>
   rw [hP] at hr1
   obtain ⟨rfl, rfl⟩ := hr1
   have hz0 := qGD hP
   obtain ⟨w0, hw0, hle0, kx⟩ := al1 w1 (.cells qAb 29)
   obtain ⟨cx0, cx1, cx2, cx3, cx4, cx5, cx6, cx7⟩ := qAB kx
   have ⟨fx0, fx1, fx2, fx3, fx4, fx5, fx6, fx7⟩ := frz8 kx
   have hs1 := hle1.size
   obtain ⟨w2, hw2, hle02⟩ := qBA (hle1.trans hle0) hs1
   have r4 := bxl hle02 k4'.out
   have r5 := bxl hle02 k5'.out
   obtain ⟨gfz0, gfz1, gfz2, gfz3, gfz4, gfz5, gfz6, gfz7⟩ := qAB r4
   have ⟨fw0, fw1, fw2, fw3, fw4, fw5, fw6, fw7⟩ := frz8 r4
   have gr := qAF r5
   have fr := fz0 r5 0
   have hfin := hbad'.out w2 cc (qBx hle02 _) (hbV'.out.trans (hle02.mono (by omega))) r4 r5 (qHF hP)
   have ⟨hle1', hle0', hle02', r4', r5', hfin', hP', kx'⟩ := hyd8 hle1 hle0 hle02 r4 r5 hfin hP kx
   clear kx hP hfin r5 r4 hle02 hle0 hle1
   gi_wp2_with (refine ⟨trivial, ?_⟩)
   exact hfin'.out _
  | ok xg =>
   rw [hP] at hr1
   obtain ⟨hf1, rfl⟩ := hr1
   obtain ⟨xs1, xA1, xn1, xc1, xt1, xB1, xm1, xd1, xs2, xA2, xn2, xc2, xt2, xB2, xm2, xd2, rfl⟩ := id hf1.aform
   obtain ⟨w2, hw2, hle2, kx⟩ := al1 w1 (.cells #[.bool xs1, .slice xA1 xn1 xc1, .bool xt1, .slice xB1 xm1 xd1, .bool xs2, .slice xA2 xn2 xc2, .bool xt2, .slice xB2 xm2 xd2] 29)
   have hle02 : Le V w2 := hle1.trans hle2
   have hfx := hf1.le hle2
   have kc2 := bxl hle02 hbox'.out
   obtain ⟨ca0, ca1, ca2, ca3, ca4, ca5, ca6, ca7⟩ := qAB kc2
   obtain ⟨cx0, cx1, cx2, cx3, cx4, cx5, cx6, cx7⟩ := qAB kx
   have hmul := qG6 yt (qAS xg) _ _ w2 (htV'.out.le hle02) hfx.isAV
   have hs1 := hle1.size
   have ⟨hle1', hle2', hle02', hf1', hfx', kc2', kx', hmul'⟩ := hyd8 hle1 hle2 hle02 hf1 hfx kc2 kx hmul
   have hP' := hyd1 hP
   clear hP hmul kx kc2 hfx hf1 hle02 hle2 hle1
   gi_wp2_with (fail)
   clear hw2
   refine ⟨trivial, ?_⟩
   gi_at_call 30
   refine (CallsIn.inRound la (callsIn_wide.2 hmul'.out)).mono ?_
   rintro e w3 ⟨hle3, v3, cc, rfl, hr3⟩
   clear ca0 ca1 ca2 ca3 ca4 ca5 ca6 ca7 cx0 cx1 cx2 cx3 cx4 cx5 cx6 cx7
   have kx3 := bxl hle3 kx'.out
   obtain ⟨gfx0, gfx1, gfx2, gfx3, gfx4, gfx5, gfx6, gfx7⟩ := qAB kx3
   have ⟨fx0, fx1, fx2, fx3, fx4, fx5, fx6, fx7⟩ := frz8 kx3
   have hle03 : Le V w3 := hle02'.out.trans hle3
   change IsResT w3 v3 cc (mulG yt (qAS xg)) at hr3
   cases hM : mulG yt (qAS xg) with
   | error z =>
    rw [hM] at hr3
    obtain ⟨rfl, rfl⟩ := hr3
    have hz0 := qDi hM
    obtain ⟨w4, hw4, hle4⟩ := qBA hle03 hs1
    have r4 := bxl hle4 k4'.out
    have r5 := bxl hle4 k5'.out
    obtain ⟨gfz0, gfz1, gfz2, gfz3, gfz4, gfz5, gfz6, gfz7⟩ := qAB r4
    have ⟨fw0, fw1, fw2, fw3, fw4, fw5, fw6, fw7⟩ := frz8 r4
    have gr := qAF r5
    have fr := fz0 r5 0
    have hfin := hbad'.out w4 cc (qBx hle4 _) (hbV'.out.trans (hle4.mono (by omega))) r4 r5 (qHG hP'.out hM)
    have ⟨hle3', hle03', hle4', r4', r5', hfin', hM', kx3'⟩ := hyd8 hle3 hle03 hle4 r4 r5 hfin hM kx3
    clear kx3 hM hfin r5 r4 hle4 hle03 hle3
    gi_wp2_with (refine ⟨trivial, ?_⟩)
    exact hfin'.out _
   | ok yg =>
    rw [hM] at hr3
    obtain ⟨hf3, rfl⟩ := hr3
    obtain ⟨ys1, yA1, yn1, yc1, yt1, yB1, ym1, yd1, ys2, yA2, yn2, yc2, yt2, yB2, ym2, yd2, rfl⟩ := id hf3.aform
    obtain ⟨w4, hw4, hle4, ky, hfy⟩ := qDI hle03 hs1 kx3 hf3
    have ks := bxl hle4 kold'.out
    obtain ⟨cs0, cs1, cs2, cs3, cs4, cs5, cs6, cs7⟩ := qAB ks
    obtain ⟨cy0, cy1, cy2, cy3, cy4, cy5, cy6, cy7⟩ := qAB ky
    have hadd := qJs (qAS s) (qAS yg) _ _ w4 (hfold'.out.le hle4).isAV hfy.isAV
    have ⟨hle3', hle03', hle4', hf3', ky', hfy', ks', hadd'⟩ := hyd8 hle3 hle03 hle4 hf3 ky hfy ks hadd
    have ⟨hM', kx3'⟩ := hyd2 hM kx3
    clear kx3 hM hadd ks hfy ky hf3 hle4 hle03 hle3
    gi_wp2_with (fail)
    clear hw4
    clear fx0 fx1 fx2 fx3 fx4 fx5 fx6 fx7 gfx0 gfx1 gfx2 gfx3 gfx4 gfx5 gfx6 gfx7
    refine ⟨trivial, ?_⟩
    gi_at_call 53
    refine (CallsIn.inRound la (callsIn_wide.2 hadd'.out)).mono ?_
    rintro e w5 ⟨hle5, v5, cc, rfl, hr5⟩
    clear cs0 cs1 cs2 cs3 cs4 cs5 cs6 cs7 cy0 cy1 cy2 cy3 cy4 cy5 cy6 cy7
    have hle05 : Le V w5 := hle4'.out.trans hle5
    have ks5 := bxl hle05 kold'.out
    obtain ⟨gfs0, gfs1, gfs2, gfs3, gfs4, gfs5, gfs6, gfs7⟩ := qAB ks5
    have ⟨fs0, fs1, fs2, fs3, fs4, fs5, fs6, fs7⟩ := frz8 ks5
    change IsResT w5 v5 cc (qFX (qAS s) (qAS yg)) at hr5
    cases hA : qFX (qAS s) (qAS yg) with
    | error z =>
     rw [hA] at hr5
     obtain ⟨rfl, rfl⟩ := hr5
     have hz0 := qDi hA
     have ht := qAL w5 Wc.heap.size (.bool false) (.slice none 0 0) (.bool false) (.slice none 0 0) (.bool false) (.slice none 0 0) (.bool false) (.slice none 0 0)
     obtain ⟨w6, hw6⟩ : ∃ w6, ((((((((w5.setCell ⟨Wc.heap.size, 0, none⟩ (.bool false)).setCell ⟨Wc.heap.size, 1, none⟩ (.slice none 0 0)).setCell ⟨Wc.heap.size, 2, none⟩ (.bool false)).setCell ⟨Wc.heap.size, 3, none⟩ (.slice none 0 0)).setCell ⟨Wc.heap.size, 4, none⟩ (.bool false)).setCell ⟨Wc.heap.size, 5, none⟩ (.slice none 0 0)).setCell ⟨Wc.heap.size, 6, none⟩ (.bool false)).setCell ⟨Wc.heap.size, 7, none⟩ (.slice none 0 0)) = w6 := ⟨_, rfl⟩
     have ht6 : Touch Wc.heap.size w5 w6 := by rw [← hw6]; exact ht
     have hb6 : Below w.heap.size w w6 := by rw [← hw6]; exact qCb (hbV'.out.trans (hle05.mono (by omega))) (by omega) _ _ _ _ _ _ _ _
     have hk6 : KeepsFrom W0.heap.size V w6 := by rw [← hw6]; exact (qBx hle05 _).trans (qEi _ _ _ _ _ _ _ _ _ _ _)
     have r4 := (ht6.2.1 _ (show w.heap.size + 1 ≠ Wc.heap.size by omega)).trans (bxl hle05 k4'.out)
     have r5 := (ht6.2.1 _ (show w.heap.size + 2 ≠ Wc.heap.size by omega)).trans (bxl hle05 k5'.out)
     obtain ⟨gfz0, gfz1, gfz2, gfz3, gfz4, gfz5, gfz6, gfz7⟩ := qAB r4
     have ⟨fw0, fw1, fw2, fw3, fw4, fw5, fw6, fw7⟩ := frz8 r4
     have gr := qAF r5
     have fr := fz0 r5 0
     have hfin := hbad'.out w6 cc hk6 hb6 r4 r5 ((qEY hP'.out hM'.out).trans hA)
     have ⟨hle5', hle05', ks5', ht', ht6', hb6', hk6', r4'⟩ := hyd8 hle5 hle05 ks5 ht ht6 hb6 hk6 r4
     have ⟨r5', hfin', hA'⟩ := hyd3 r5 hfin hA
     clear hA hfin r5 r4 hk6 hb6 ht6 ht ks5 hle05 hle5
     gi_wp2_with (refine ⟨trivial, ?_⟩)
     exact hfin'.out _
    | ok sg =>
     rw [hA] at hr5
     obtain ⟨hf5, rfl⟩ := hr5
     obtain ⟨zs1, zA1, zn1, zc1, zt1, zB1, zm1, zd1, zs2, zA2, zn2, zc2, zt2, zB2, zm2, zd2, rfl⟩ := id hf5.aform
     have hfin := hgood'.out w5 sg zs1 zA1 zn1 zc1 zt1 zB1 zm1 zd1 zs2 zA2 zn2 zc2 zt2 zB2 zm2 zd2 hle05 hf5 ((qEY hP'.out hM'.out).trans hA)
     have ⟨hle5', hle05', ks5', hf5', hfin', hA'⟩ := hyd6 hle5 hle05 ks5 hf5 hfin hA
     clear hA hfin hf5 ks5 hle05 hle5
     gi_wp2_with (refine ⟨trivial, ?_⟩)
     exact hfin'.out _
 ·rintro D ys W hD rfl ⟨k1, k2, k3, k4, k5, s, ⟨os1, oA1, on1, oc1, ot1, oB1, om1, od1, os2, oA2, on2, oc2, ot2, oB2, om2, od2, kold, hfold⟩, k7, k8⟩ hDK
  have hres : qAc u (0, 0) l = .ok s := by
   rw [k8 (qBY _), List.length_finRange]
   exact qGc
  obtain ⟨cs0, cs1, cs2, cs3, cs4, cs5, cs6, cs7⟩ := qAB kold
  obtain ⟨gfz0, gfz1, gfz2, gfz3, gfz4, gfz5, gfz6, gfz7⟩ := qAB k4
  have ⟨fw0, fw1, fw2, fw3, fw4, fw5, fw6, fw7⟩ := frz8 k4
  have hr5' : ∀ (vs : Array Value), True := fun _ => trivial
  have ht := qAL W (w.heap.size + 1) (.bool os1) (.slice oA1 on1 oc1) (.bool ot1) (.slice oB1 om1 od1) (.bool os2) (.slice oA2 on2 oc2) (.bool ot2) (.slice oB2 om2 od2)
  obtain ⟨w6, hw6⟩ : ∃ w6, ((((((((W.setCell ⟨(w.heap.size + 1), 0, none⟩ (.bool os1)).setCell ⟨(w.heap.size + 1), 1, none⟩ (.slice oA1 on1 oc1)).setCell ⟨(w.heap.size + 1), 2, none⟩ (.bool ot1)).setCell ⟨(w.heap.size + 1), 3, none⟩ (.slice oB1 om1 od1)).setCell ⟨(w.heap.size + 1), 4, none⟩ (.bool os2)).setCell ⟨(w.heap.size + 1), 5, none⟩ (.slice oA2 on2 oc2)).setCell ⟨(w.heap.size + 1), 6, none⟩ (.bool ot2)).setCell ⟨(w.heap.size + 1), 7, none⟩ (.slice oB2 om2 od2)) = w6 := ⟨_, rfl⟩
  have ht6 : Touch (w.heap.size + 1) W w6 := by rw [← hw6]; exact ht
  have h4 : w6.heap[w.heap.size + 1]? = some (.cells #[.bool os1, .slice oA1 on1 oc1, .bool ot1, .slice oB1 om1 od1, .bool os2, .slice oA2 on2 oc2, .bool ot2, .slice oB2 om2 od2] 29) := by rw [← hw6]; exact qAI k4 _ _ _ _ _ _ _ _
  have h5 := (ht6.2.1 _ (show w.heap.size + 2 ≠ w.heap.size + 1 by omega)).trans k5
  have hf6 := hfold.touch (qA9 k4) ht6
  have hD6 := (ht6.2.1 D (by omega)).trans hDK
  have hb6 : Below w.heap.size w w6 := by rw [← hw6]; exact qCb (hB0'.out.trans k1.1) (by omega) _ _ _ _ _ _ _ _
  have gr := qAF h5
  have fr := fz0 h5 0
  clear hyield k8 hr5'
  have ⟨k1', k2', k3', k4', k5', kold', hfold', k7'⟩ := hyd8 k1 k2 k3 k4 k5 kold hfold k7
  have ⟨hres', hDK', ht', ht6', h4', h5', hf6', hD6'⟩ := hyd8 hres hDK ht ht6 h4 h5 hf6 hD6
  have hb6' := hyd1 hb6
  clear hb6 hD6 hf6 h5 h4 ht6 ht hDK hres k7 hfold kold k5 k4 k3 k2 k1
  gi_wp2
  refine qAm w.heap.size [{ target := .collected D, args := #[] }] _ ⟨⟨D, rfl, by omega, ?_, by simp⟩, trivial⟩ fun w9 hb hkeep => ?_
  ·exact (Below.heap_setCell _ _ _ _ (show D ≠ w.heap.size + 1 + 1 by omega)).trans hD6'.out
  ·have c5 := qAF (hkeep _ _ (qA5 h5'.out) rfl)
   obtain ⟨c90, c91, c92, c93, c94, c95, c96, c97⟩ := qAB (hkeep _ _ ((Below.heap_setCell _ _ _ _ (show w.heap.size + 1 ≠ w.heap.size + 1 + 1 by omega)).trans h4'.out) rfl)
   have hf9 := (hf6'.out.put64 (z' := 0) h5'.out).kc (W' := w9) ⟨hb.size, hkeep⟩
   exact ⟨.tuple #[.agg #[.bool os1, .slice oA1 on1 oc1, .bool ot1, .slice oB1 om1 od1, .bool os2, .slice oA2 on2 oc2, .bool ot2, .slice oB2 om2 od2], .int .i64 0], by simp [results, Tryz.results19, go_sem, c5, c90, c91, c92, c93, c94, c95, c96, c97], (hb6'.out.setCell (p := ⟨w.heap.size + 1 + 1, 0, none⟩) (by show w.heap.size ≤ w.heap.size + 1 + 1; omega) _).trans hb, _, _, rfl, by rw [hres'.out]; exact ⟨hf9, rfl⟩⟩
 ·rintro D cc pre W hD hpre ⟨rfl, k1, k2, z, k3, k4⟩ hDK
  have hres := k4 hpre
  clear hyield k4
  have ⟨k1', k2', k3', hDK', hres'⟩ := hyd5 k1 k2 k3 hDK hres
  clear hres hDK k3 k2 k1
  gi_wp2
  refine qAm w.heap.size [{ target := .collected D, args := #[] }] _ ⟨⟨D, rfl, by omega, hDK'.out, by simp⟩, trivial⟩ fun w9 hb hkeep => ?_
  have c5 := qAF (hkeep _ _ k3'.out rfl)
  obtain ⟨c90, c91, c92, c93, c94, c95, c96, c97⟩ := qAB (hkeep _ _ k2'.out rfl)
  exact ⟨.tuple #[.agg qAb, .int .i64 z], by simp [results, Tryz.results19, go_sem, c5, c90, c91, c92, c93, c94, c95, c96, c97], k1'.out.trans hb, _, _, rfl, by rw [hres'.out]; exact ⟨rfl, rfl⟩⟩
end Go.Proofs.YtlhfonhbbpbmpaaGreat
namespace Go.Proofs.YtlhfonhbbpbmpaaGreat
set_option maxRecDepth 100000
set_option maxHeartbeats 8000000
open Go.RowKit Go.Shelf
set_option linter.unusedVariables false
set_option linter.unusedSimpArgs false
theorem qBj {w W : World} {X : Nat} {u0 u1 : Value} (h : Le w W) (hX : w.heap.size ≤ X) : Le w ((W.setCell ⟨X, 0, none⟩ u0).setCell ⟨X, 1, none⟩ u1) :=
 (Below.setCell h (p := ⟨X, 0, none⟩) hX _).setCell (p := ⟨X, 1, none⟩) hX _
def spE : Except Int (Int × Int) → Int × Int × Int
 | .ok (a, b) => (a, b, 0)
 | .error z => (0, 0, z)
def qKj (r : Except Int (Int × Int)) (w : World) (e : Ending) (w' : World) : Prop := Le w w' ∧ e = .returned (.tuple #[.agg #[.int .i64 (spE r).1, .int .i64 (spE r).2.1], .int .i64 (spE r).2.2])
theorem qIc {x : FracA × FracA} {X a : Int} (h : qAU x.1 = (X, a)) (ha : a ≠ 0) : qBH x = .error a := by unfold qBH; rw [h]; exact if_pos ha
theorem qId {x : FracA × FracA} {X Y b : Int} (h : qAU x.1 = (X, 0)) (h2 : qAU x.2 = (Y, b)) (hb : b ≠ 0) : qBH x = .error b := by
 unfold qBH; rw [h, h2]; rw [if_neg (by simp)]; exact if_pos hb
theorem qIe {x : FracA × FracA} {X Y : Int} (h : qAU x.1 = (X, 0)) (h2 : qAU x.2 = (Y, 0)) : qBH x = if qAl X (-10000) 10000 && qAl Y (-10000) 10000 then .ok (X, Y) else .error 22 := by
 unfold qBH
 rw [h, h2, if_neg (by simp), if_neg (by simp)]
 by_cases hc : (-10000 ≤ X ∧ X ≤ 10000) ∧ (-10000 ≤ Y ∧ Y ≤ 10000)
 ·rw [if_pos hc, if_pos (by rw [within_iff.2 hc.1, within_iff.2 hc.2]; rfl)]
 ·rw [if_neg hc, if_neg ?_]
  intro h
  rw [Bool.and_eq_true, within_iff, within_iff] at h
  exact hc h
theorem qIf (x : FracA × FracA) (v : Value) (w : World) (hv : IsTurnA w v x) : Calls Tryz.prog 31 #[v] w (qKj (qBH x) w) := by
 obtain ⟨A1, c1, B1, d1, A2, c2, B2, d2, rfl, hx1, hx2⟩ := hv
 obtain ⟨W0, hW0, hsz, hle, k0, k1⟩ := qAQ w (.cells #[.bool x.1.sn, .slice A1 x.1.gn.length c1, .bool x.1.sd, .slice B1 x.1.gd.length d1, .bool x.2.sn, .slice A2 x.2.gn.length c2, .bool x.2.sd, .slice B2 x.2.gd.length d2] 29) (.cells #[.int .i64 0, .int .i64 0] 72)
 have hn1 := qG7 x.1 _ W0 (hx1.le hle)
 have hn2 := fun (W : World) (h : Le W0 W) => qG7 x.2 _ W (hx2.le (hle.trans h))
 obtain ⟨X, a, hX⟩ : ∃ X a, qAU x.1 = (X, a) := ⟨_, _, rfl⟩
 obtain ⟨Y, b, hY⟩ : ∃ Y b, qAU x.2 = (Y, b) := ⟨_, _, rfl⟩
 rw [hX] at hn1
 simp only [hY] at hn2
 dsimp only at hn1
 obtain ⟨r, hr⟩ : ∃ r, qBH x = r := ⟨_, rfl⟩
 rw [hr]
 obtain ⟨z0, z1, z2, z3, z4, z5, z6, z7⟩ := qAB k0
 have hne1 : ¬ w.heap.size = w.heap.size + 1 := by omega
 have hne2 : ¬ w.heap.size + 1 = w.heap.size := by omega
 clear hsz
 have ⟨hx1', hx2', hle', k0', k1', hn1', hn2', hX'⟩ := hyd8 hx1 hx2 hle k0 k1 hn1 hn2 hX
 have ⟨hY', hr'⟩ := hyd2 hY hr
 clear hr hY hX hn2 hn1 k1 k0 hle hx2 hx1
 go_enter Tryz.func31, Tryz.ntmps31
 go_wp2_with (fail)
 clear hW0
 go_at_call 76
 refine hn1'.out.mono ?_
 rintro e W1 ⟨rfl, hle1⟩
 have k01 := bxl hle1 k0'.out
 have k11 := bxl hle1 k1'.out
 have hle01 := hle'.out.trans hle1
 clear z0 z1 z2 z3 z4 z5 z6 z7
 obtain ⟨z0, z1, z2, z3, z4, z5, z6, z7⟩ := qAB k01
 by_cases ha : a = 0
 ·subst ha
  have hn3 := hn2'.out W1 hle1
  have ⟨hle1', k01', k11', hle01', hn3'⟩ := hyd5 hle1 k01 k11 hle01 hn3
  clear hn3 hle01 k11 k01 hle1
  go_wp2_with (fail)
  go_at_call 76
  refine hn3'.out.mono ?_
  rintro e W2 ⟨rfl, hle2⟩
  have k12 := bxl hle2 k11'.out
  have hle02 := hle01'.out.trans hle2
  clear z0 z1 z2 z3 z4 z5 z6 z7
  obtain ⟨g0, g1⟩ := qAn k12
  have ⟨f0, f1⟩ := frz2 k12
  by_cases hb : b = 0
  ·subst hb
   have hsp := qIe hX'.out hY'.out
   rw [hr'.out] at hsp
   obtain ⟨p, hp⟩ : ∃ p, qAl X (-10000) 10000 = p := ⟨_, rfl⟩
   obtain ⟨q, hq⟩ : ∃ q, qAl Y (-10000) 10000 = q := ⟨_, rfl⟩
   rw [hp, hq] at hsp
   cases p with
   | true =>
    cases q with
    | true =>
     have hres : r = .ok (X, Y) := hsp
     obtain ⟨d0, d1⟩ := qAn (qBG (u0 := (.int .i64 X)) (u1 := (.int .i64 Y)) k12)
     have hleZ := qBj (u0 := (.int .i64 X)) (u1 := (.int .i64 Y)) hle02 (show w.heap.size ≤ w.heap.size + 1 by omega)
     have ⟨hle2', k12', hle02', hsp', hres', hleZ', hp', hq'⟩ := hyd8 hle2 k12 hle02 hsp hres hleZ hp hq
     clear hq hp hleZ hres hsp hle02 k12 hle2
     go_wp2_with (first | (go_at_call 27; ((with_reducible refine (qB9 _ _ _ _).mono ?_); rintro e w' ⟨rfl, rfl⟩; first | rw [hp'.out] | rw [hq'.out])))
     exact bodyPost_ret (v := .tuple #[.agg #[.int .i64 X, .int .i64 Y], .int .i64 0]) (by simp [results, Tryz.results31, go_sem, d0, d1]) rfl ⟨hleZ'.out, by rw [hres'.out]; rfl⟩
    | false =>
     have hres : r = .error 22 := hsp
     obtain ⟨d0, d1⟩ := qAn (qBG (u0 := (.int .i64 0)) (u1 := (.int .i64 0)) k12)
     have hleZ := qBj (u0 := (.int .i64 0)) (u1 := (.int .i64 0)) hle02 (show w.heap.size ≤ w.heap.size + 1 by omega)
     have ⟨hle2', k12', hle02', hsp', hres', hleZ', hp', hq'⟩ := hyd8 hle2 k12 hle02 hsp hres hleZ hp hq
     clear hq hp hleZ hres hsp hle02 k12 hle2
     go_wp2_with (first | (go_at_call 27; ((with_reducible refine (qB9 _ _ _ _).mono ?_); rintro e w' ⟨rfl, rfl⟩; first | rw [hp'.out] | rw [hq'.out])))
     exact bodyPost_ret (v := .tuple #[.agg #[.int .i64 0, .int .i64 0], .int .i64 22]) (by simp [results, Tryz.results31, go_sem, d0, d1]) rfl ⟨hleZ'.out, by rw [hres'.out]; rfl⟩
   | false =>
    cases q with
    | true =>
     have hres : r = .error 22 := hsp
     obtain ⟨d0, d1⟩ := qAn (qBG (u0 := (.int .i64 0)) (u1 := (.int .i64 0)) k12)
     have hleZ := qBj (u0 := (.int .i64 0)) (u1 := (.int .i64 0)) hle02 (show w.heap.size ≤ w.heap.size + 1 by omega)
     have ⟨hle2', k12', hle02', hsp', hres', hleZ', hp', hq'⟩ := hyd8 hle2 k12 hle02 hsp hres hleZ hp hq
     clear hq hp hleZ hres hsp hle02 k12 hle2
     go_wp2_with (first | (go_at_call 27; ((with_reducible refine (qB9 _ _ _ _).mono ?_); rintro e w' ⟨rfl, rfl⟩; first | rw [hp'.out] | rw [hq'.out])))
     exact bodyPost_ret (v := .tuple #[.agg #[.int .i64 0, .int .i64 0], .int .i64 22]) (by simp [results, Tryz.results31, go_sem, d0, d1]) rfl ⟨hleZ'.out, by rw [hres'.out]; rfl⟩
    | false =>
     have hres : r = .error 22 := hsp
     obtain ⟨d0, d1⟩ := qAn (qBG (u0 := (.int .i64 0)) (u1 := (.int .i64 0)) k12)
     have hleZ := qBj (u0 := (.int .i64 0)) (u1 := (.int .i64 0)) hle02 (show w.heap.size ≤ w.heap.size + 1 by omega)
     have ⟨hle2', k12', hle02', hsp', hres', hleZ', hp', hq'⟩ := hyd8 hle2 k12 hle02 hsp hres hleZ hp hq
     clear hq hp hleZ hres hsp hle02 k12 hle2
     go_wp2_with (first | (go_at_call 27; ((with_reducible refine (qB9 _ _ _ _).mono ?_); rintro e w' ⟨rfl, rfl⟩; first | rw [hp'.out] | rw [hq'.out])))
     exact bodyPost_ret (v := .tuple #[.agg #[.int .i64 0, .int .i64 0], .int .i64 22]) (by simp [results, Tryz.results31, go_sem, d0, d1]) rfl ⟨hleZ'.out, by rw [hres'.out]; rfl⟩
  ·have hres : r = .error b := by rw [← hr'.out]; exact qId hX'.out hY'.out hb
   obtain ⟨d0, d1⟩ := qAn (qBG (u0 := .int .i64 0) (u1 := .int .i64 0) k12)
   have hleZ := qBj (u0 := .int .i64 0) (u1 := .int .i64 0) hle02 (show w.heap.size ≤ w.heap.size + 1 by omega)
   have ⟨hle2', k12', hle02', hres', hleZ'⟩ := hyd5 hle2 k12 hle02 hres hleZ
   clear hleZ hres hle02 k12 hle2
   go_wp2
   exact bodyPost_ret (v := .tuple #[.agg #[.int .i64 0, .int .i64 0], .int .i64 b]) (by simp [results, Tryz.results31, go_sem, d0, d1]) rfl ⟨hleZ'.out, by rw [hres'.out]; rfl⟩
 ·have hres : r = .error a := by rw [← hr'.out]; exact qIc hX'.out ha
  obtain ⟨g0, g1⟩ := qAn k11
  have ⟨f0, f1⟩ := frz2 k11
  obtain ⟨d0, d1⟩ := qAn (qBG (u0 := .int .i64 0) (u1 := .int .i64 0) k11)
  have hleZ := qBj (u0 := .int .i64 0) (u1 := .int .i64 0) hle01 (show w.heap.size ≤ w.heap.size + 1 by omega)
  have ⟨hle1', k01', k11', hle01', hres', hleZ'⟩ := hyd6 hle1 k01 k11 hle01 hres hleZ
  clear hleZ hres hle01 k11 k01 hle1
  go_wp2
  exact bodyPost_ret (v := .tuple #[.agg #[.int .i64 0, .int .i64 0], .int .i64 a]) (by simp [results, Tryz.results31, go_sem, d0, d1]) rfl ⟨hleZ'.out, by rw [hres'.out]; rfl⟩
theorem qKk (x : FracA × FracA) (v : Value) (w : World) (hv : IsTurnA w v x) : Calls Tryz.prog 35 #[v] w (qKj (qBH x) w) := by
 obtain ⟨A1, c1, B1, d1, A2, c2, B2, d2, rfl, hx1, hx2⟩ := hv
 obtain ⟨W0, hW0, hsz, hle, k0, k1⟩ := qAQ w (.cells #[.bool x.1.sn, .slice A1 x.1.gn.length c1, .bool x.1.sd, .slice B1 x.1.gd.length d1, .bool x.2.sn, .slice A2 x.2.gn.length c2, .bool x.2.sd, .slice B2 x.2.gd.length d2] 29) (.cells #[.int .i64 0, .int .i64 0] 72)
 have hn1 := qFF (fun _ => True) (fun _ => True) x.1 _ W0 (Up.any _) (hx1.le hle)
 have hn2 := fun (W : World) (h : Le W0 W) => qFF (fun _ => True) (fun _ => True) x.2 _ W (Up.any _) (hx2.le (hle.trans h))
 obtain ⟨X, a, hX⟩ : ∃ X a, qAU x.1 = (X, a) := ⟨_, _, rfl⟩
 obtain ⟨Y, b, hY⟩ : ∃ Y b, qAU x.2 = (Y, b) := ⟨_, _, rfl⟩
 rw [hX] at hn1
 simp only [hY] at hn2
 dsimp only at hn1
 obtain ⟨r, hr⟩ : ∃ r, qBH x = r := ⟨_, rfl⟩
 rw [hr]
 obtain ⟨z0, z1, z2, z3, z4, z5, z6, z7⟩ := qAB k0
 have hne1 : ¬ w.heap.size = w.heap.size + 1 := by omega
 have hne2 : ¬ w.heap.size + 1 = w.heap.size := by omega
 clear hsz
 have ⟨hx1', hx2', hle', k0', k1', hn1', hn2', hX'⟩ := hyd8 hx1 hx2 hle k0 k1 hn1 hn2 hX
 have ⟨hY', hr'⟩ := hyd2 hY hr
 clear hr hY hX hn2 hn1 k1 k0 hle hx2 hx1
 go_enter Tryz.func35, Tryz.ntmps35
 go_wp2_with (fail)
 clear hW0
 go_at_call 82
 refine hn1'.out.mono ?_
 rintro e W1 ⟨rfl, hle1⟩
 have k01 := bxl hle1 k0'.out
 have k11 := bxl hle1 k1'.out
 have hle01 := hle'.out.trans hle1
 clear z0 z1 z2 z3 z4 z5 z6 z7
 obtain ⟨z0, z1, z2, z3, z4, z5, z6, z7⟩ := qAB k01
 by_cases ha : a = 0
 ·subst ha
  have hn3 := hn2'.out W1 hle1
  have ⟨hle1', k01', k11', hle01', hn3'⟩ := hyd5 hle1 k01 k11 hle01 hn3
  clear hn3 hle01 k11 k01 hle1
  go_wp2_with (fail)
  go_at_call 82
  refine hn3'.out.mono ?_
  rintro e W2 ⟨rfl, hle2⟩
  have k12 := bxl hle2 k11'.out
  have hle02 := hle01'.out.trans hle2
  clear z0 z1 z2 z3 z4 z5 z6 z7
  obtain ⟨g0, g1⟩ := qAn k12
  have ⟨f0, f1⟩ := frz2 k12
  by_cases hb : b = 0
  ·subst hb
   have hsp := qIe hX'.out hY'.out
   rw [hr'.out] at hsp
   obtain ⟨p, hp⟩ : ∃ p, qAl X (-10000) 10000 = p := ⟨_, rfl⟩
   obtain ⟨q, hq⟩ : ∃ q, qAl Y (-10000) 10000 = q := ⟨_, rfl⟩
   rw [hp, hq] at hsp
   cases p with
   | true =>
    cases q with
    | true =>
     have hres : r = .ok (X, Y) := hsp
     obtain ⟨d0, d1⟩ := qAn (qBG (u0 := (.int .i64 X)) (u1 := (.int .i64 Y)) k12)
     have hleZ := qBj (u0 := (.int .i64 X)) (u1 := (.int .i64 Y)) hle02 (show w.heap.size ≤ w.heap.size + 1 by omega)
     have ⟨hle2', k12', hle02', hsp', hres', hleZ', hp', hq'⟩ := hyd8 hle2 k12 hle02 hsp hres hleZ hp hq
     clear hq hp hleZ hres hsp hle02 k12 hle2
     go_wp2_with (first | (go_at_call 12; ((with_reducible refine (qAR _ _ _ _).mono ?_); rintro e w' ⟨rfl, rfl⟩; first | rw [hp'.out] | rw [hq'.out])))
     exact bodyPost_ret (v := .tuple #[.agg #[.int .i64 X, .int .i64 Y], .int .i64 0]) (by simp [results, Tryz.results35, go_sem, d0, d1]) rfl ⟨hleZ'.out, by rw [hres'.out]; rfl⟩
    | false =>
     have hres : r = .error 22 := hsp
     obtain ⟨d0, d1⟩ := qAn (qBG (u0 := (.int .i64 0)) (u1 := (.int .i64 0)) k12)
     have hleZ := qBj (u0 := (.int .i64 0)) (u1 := (.int .i64 0)) hle02 (show w.heap.size ≤ w.heap.size + 1 by omega)
     have ⟨hle2', k12', hle02', hsp', hres', hleZ', hp', hq'⟩ := hyd8 hle2 k12 hle02 hsp hres hleZ hp hq
     clear hq hp hleZ hres hsp hle02 k12 hle2
     go_wp2_with (first | (go_at_call 12; ((with_reducible refine (qAR _ _ _ _).mono ?_); rintro e w' ⟨rfl, rfl⟩; first | rw [hp'.out] | rw [hq'.out])))
     exact bodyPost_ret (v := .tuple #[.agg #[.int .i64 0, .int .i64 0], .int .i64 22]) (by simp [results, Tryz.results35, go_sem, d0, d1]) rfl ⟨hleZ'.out, by rw [hres'.out]; rfl⟩
   | false =>
    cases q with
    | true =>
     have hres : r = .error 22 := hsp
     obtain ⟨d0, d1⟩ := qAn (qBG (u0 := (.int .i64 0)) (u1 := (.int .i64 0)) k12)
     have hleZ := qBj (u0 := (.int .i64 0)) (u1 := (.int .i64 0)) hle02 (show w.heap.size ≤ w.heap.size + 1 by omega)
     have ⟨hle2', k12', hle02', hsp', hres', hleZ', hp', hq'⟩ := hyd8 hle2 k12 hle02 hsp hres hleZ hp hq
     clear hq hp hleZ hres hsp hle02 k12 hle2
     go_wp2_with (first | (go_at_call 12; ((with_reducible refine (qAR _ _ _ _).mono ?_); rintro e w' ⟨rfl, rfl⟩; first | rw [hp'.out] | rw [hq'.out])))
     exact bodyPost_ret (v := .tuple #[.agg #[.int .i64 0, .int .i64 0], .int .i64 22]) (by simp [results, Tryz.results35, go_sem, d0, d1]) rfl ⟨hleZ'.out, by rw [hres'.out]; rfl⟩
    | false =>
     have hres : r = .error 22 := hsp
     obtain ⟨d0, d1⟩ := qAn (qBG (u0 := (.int .i64 0)) (u1 := (.int .i64 0)) k12)
     have hleZ := qBj (u0 := (.int .i64 0)) (u1 := (.int .i64 0)) hle02 (show w.heap.size ≤ w.heap.size + 1 by omega)
     have ⟨hle2', k12', hle02', hsp', hres', hleZ', hp', hq'⟩ := hyd8 hle2 k12 hle02 hsp hres hleZ hp hq
     clear hq hp hleZ hres hsp hle02 k12 hle2
     go_wp2_with (first | (go_at_call 12; ((with_reducible refine (qAR _ _ _ _).mono ?_); rintro e w' ⟨rfl, rfl⟩; first | rw [hp'.out] | rw [hq'.out])))
     exact bodyPost_ret (v := .tuple #[.agg #[.int .i64 0, .int .i64 0], .int .i64 22]) (by simp [results, Tryz.results35, go_sem, d0, d1]) rfl ⟨hleZ'.out, by rw [hres'.out]; rfl⟩
  ·have hres : r = .error b := by rw [← hr'.out]; exact qId hX'.out hY'.out hb
   obtain ⟨d0, d1⟩ := qAn (qBG (u0 := .int .i64 0) (u1 := .int .i64 0) k12)
   have hleZ := qBj (u0 := .int .i64 0) (u1 := .int .i64 0) hle02 (show w.heap.size ≤ w.heap.size + 1 by omega)
   have ⟨hle2', k12', hle02', hres', hleZ'⟩ := hyd5 hle2 k12 hle02 hres hleZ
   clear hleZ hres hle02 k12 hle2
   go_wp2
   exact bodyPost_ret (v := .tuple #[.agg #[.int .i64 0, .int .i64 0], .int .i64 b]) (by simp [results, Tryz.results35, go_sem, d0, d1]) rfl ⟨hleZ'.out, by rw [hres'.out]; rfl⟩
 ·have hres : r = .error a := by rw [← hr'.out]; exact qIc hX'.out ha
  obtain ⟨g0, g1⟩ := qAn k11
  have ⟨f0, f1⟩ := frz2 k11
  obtain ⟨d0, d1⟩ := qAn (qBG (u0 := .int .i64 0) (u1 := .int .i64 0) k11)
  have hleZ := qBj (u0 := .int .i64 0) (u1 := .int .i64 0) hle01 (show w.heap.size ≤ w.heap.size + 1 by omega)
  have ⟨hle1', k01', k11', hle01', hres', hleZ'⟩ := hyd6 hle1 k01 k11 hle01 hres hleZ
  clear hleZ hres hle01 k11 k01 hle1
  go_wp2
  exact bodyPost_ret (v := .tuple #[.agg #[.int .i64 0, .int .i64 0], .int .i64 a]) (by simp [results, Tryz.results35, go_sem, d0, d1]) rfl ⟨hleZ'.out, by rw [hres'.out]; rfl⟩
end Go.Proofs.YtlhfonhbbpbmpaaGreat

