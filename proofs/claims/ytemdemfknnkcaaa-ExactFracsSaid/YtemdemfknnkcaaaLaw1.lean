/- law 1: copied, erase. -/
import Derived.Test.YtemdemfknnkcaaaOper3
namespace Go.Proofs.Ytemdemfknnkcaaa
open Go.RowKit Go.Shelf
set_option linter.unusedVariables false
set_option linter.unusedSimpArgs false
theorem heap_put1 {W : World} {X : Nat} {v0 v1 v2 v3 u : Value} {t : TypeId} (h : W.heap[X]? = some (Obj.cells #[v0, v1, v2, v3] t)) : (W.setCell ⟨X, 1, none⟩ u).heap[X]? = some (.cells #[v0, u, v2, v3] t) := by
  simp only [World.setCell, Array.getElem?_modify, h]
  simp
theorem heap_put3 {W : World} {X : Nat} {v0 v1 v2 v3 u : Value} {t : TypeId} (h : W.heap[X]? = some (Obj.cells #[v0, v1, v2, v3] t)) : (W.setCell ⟨X, 3, none⟩ u).heap[X]? = some (.cells #[v0, v1, v2, u] t) := by
  simp only [World.setCell, Array.getElem?_modify, h]
  simp
theorem own_slice {w : World} {base e : Nat} {v : Value} {xs : List Nat} (h : w.ownsRow base e 1 v xs.length (xs.map (gv .u32))) : ∃ A c, v = .slice A xs.length c := by
  obtain ⟨A, c, e, -⟩ := (ArrL.of_own h (L := fun _ => True) fun _ _ => trivial : ArrL _ (gv .u32) _ _ _)
  exact ⟨A, c, e⟩
theorem copied_mid1 {w W0 W1 : World} {v : Value} {g : List Nat} {e t : TypeId} {o : Obj} {base : Nat} {s s' : Bool} {A B : Option Addr} {n c m d : Nat} (hle : Le w W0) (hb : w.heap.size < W0.heap.size) (hbase : w.heap.size < base) (r1 : W1.ownsRow base e 1 v ([] ++ g).length (([] ++ g).map (gv .u32))) (r2 : Below W0.heap.size (W0.alloc o) W1)
    (k0 : W0.heap[w.heap.size]? = some (.cells #[.bool s, .slice A n c, .bool s', .slice B m d] t)) (k1 : W0.heap[w.heap.size + 1]? = some (.cells #[.bool false, .slice none 0 0, .bool false, .slice none 0 0] t)) :
    ∃ A1 c1 W2, v = .slice A1 g.length c1 ∧ W1.setCell ⟨w.heap.size, 1, none⟩ (.slice A1 g.length c1) = W2 ∧ Le W0 W1 ∧ W1.heap[w.heap.size]? = some (.cells #[.bool s, .slice A n c, .bool s', .slice B m d] t) ∧
      W2.heap[w.heap.size]? = some (.cells #[.bool s, .slice A1 g.length c1, .bool s', .slice B m d] t) ∧ W2.heap[w.heap.size + 1]? = some (.cells #[.bool false, .slice none 0 0, .bool false, .slice none 0 0] t) ∧ Le w W2 ∧ W2.ownsRow base e 1 (.slice A1 g.length c1) g.length (g.map (gv .u32)) ∧ W0.heap.size ≤ W2.heap.size ∧
      ∀ b2 v2 n2 xs2, w.heap.size < b2 → W0.ownsRow b2 e 1 v2 n2 xs2 → W2.ownsRow b2 e 1 v2 n2 xs2 := by
  simp only [List.nil_append] at r1
  obtain ⟨A1, c1, rfl⟩ := own_slice r1
  have hle1 : Le W0 W1 := Below.trans (le_alloc _ _) r2
  have k01 := (hle1.block _ (Array.getElem?_eq_some_iff.1 k0).1).trans k0
  have k11 := (hle1.block _ (Array.getElem?_eq_some_iff.1 k1).1).trans k1
  refine ⟨A1, c1, _, rfl, rfl, hle1, k01, heap_put1 k01, (Below.heap_setCell _ _ _ _ (show w.heap.size + 1 ≠ w.heap.size by omega)).trans k11, (hle.trans hle1).setCell (p := ⟨w.heap.size, 1, none⟩) (Nat.le_refl _) _, own_put_other r1 hbase _, ?_, fun b2 v2 n2 xs2 hb2 h2 => own_put_other (own_below h2 hle1) hb2 _⟩
  have := hle1.size
  simpa [World.setCell] using this
theorem copied_mid3 {w W0 W1 : World} {v : Value} {g : List Nat} {e t : TypeId} {o : Obj} {base : Nat} {s s' : Bool} {A B : Option Addr} {n c m d : Nat} (hle : Le w W0) (hb : w.heap.size < W0.heap.size) (hbase : w.heap.size < base) (r1 : W1.ownsRow base e 1 v ([] ++ g).length (([] ++ g).map (gv .u32))) (r2 : Below W0.heap.size (W0.alloc o) W1)
    (k0 : W0.heap[w.heap.size]? = some (.cells #[.bool s, .slice A n c, .bool s', .slice B m d] t)) (k1 : W0.heap[w.heap.size + 1]? = some (.cells #[.bool false, .slice none 0 0, .bool false, .slice none 0 0] t)) :
    ∃ A1 c1 W2, v = .slice A1 g.length c1 ∧ W1.setCell ⟨w.heap.size, 3, none⟩ (.slice A1 g.length c1) = W2 ∧ Le W0 W1 ∧ W1.heap[w.heap.size]? = some (.cells #[.bool s, .slice A n c, .bool s', .slice B m d] t) ∧
      W2.heap[w.heap.size]? = some (.cells #[.bool s, .slice A n c, .bool s', .slice A1 g.length c1] t) ∧ W2.heap[w.heap.size + 1]? = some (.cells #[.bool false, .slice none 0 0, .bool false, .slice none 0 0] t) ∧ Le w W2 ∧ W2.ownsRow base e 1 (.slice A1 g.length c1) g.length (g.map (gv .u32)) ∧ W0.heap.size ≤ W2.heap.size ∧
      ∀ b2 v2 n2 xs2, w.heap.size < b2 → W0.ownsRow b2 e 1 v2 n2 xs2 → W2.ownsRow b2 e 1 v2 n2 xs2 := by
  simp only [List.nil_append] at r1
  obtain ⟨A1, c1, rfl⟩ := own_slice r1
  have hle1 : Le W0 W1 := Below.trans (le_alloc _ _) r2
  have k01 := (hle1.block _ (Array.getElem?_eq_some_iff.1 k0).1).trans k0
  have k11 := (hle1.block _ (Array.getElem?_eq_some_iff.1 k1).1).trans k1
  refine ⟨A1, c1, _, rfl, rfl, hle1, k01, heap_put3 k01, (Below.heap_setCell _ _ _ _ (show w.heap.size + 1 ≠ w.heap.size by omega)).trans k11, (hle.trans hle1).setCell (p := ⟨w.heap.size, 3, none⟩) (Nat.le_refl _) _, own_put_other r1 hbase _, ?_, fun b2 v2 n2 xs2 hb2 h2 => own_put_other (own_below h2 hle1) hb2 _⟩
  have := hle1.size
  simpa [World.setCell] using this
set_option maxRecDepth 100000 in
set_option maxHeartbeats 2000000 in
theorem pf_copied (L : Nat → Prop) (x : FracA) (v : Value) (w : World) (hL : Up w L) (h : IsFracA (fun _ => True) w v x) (hn : x.gn.length ≤ 1000) (hd : x.gd.length ≤ 1000) :
    Calls Try.prog 6 #[v] w fun e w' => ∃ v', e = .returned v' ∧ Le w w' ∧ IsFracA L w' v' x := by
  obtain ⟨A, c, B, d, rfl, p1, p2⟩ := h
  obtain ⟨W0, hW0, hsz, hle, k0, k1⟩ := new2_le w (.cells #[.bool x.sn, .slice A x.gn.length c, .bool x.sd, .slice B x.gd.length d] 26) (.cells #[.bool false, .slice none 0 0, .bool false, .slice none 0 0] 26)
  have hz1 := Nat.le_of_eq hsz
  have hz2 := Nat.le_of_eq hsz.symm
  clear hsz
  obtain ⟨a0, a1, a2, a3⟩ := cells4 k0
  have hown := own_empty W0 69 W0.heap.size (Nat.le_refl _)
  have hsrc := ((p1.le hle).le (le_alloc W0 (.cells #[] 69))).arr
  have hL' := Lib.hid hL
  have p1' := Lib.hid p1
  have p2' := Lib.hid p2
  have hle' := Lib.hid hle
  have k0' := Lib.hid k0
  have k1' := Lib.hid k1
  have hown' := Lib.hid hown
  have hsrc' := Lib.hid hsrc
  clear hsrc hown k1 k0 hle p2 p1 hL
  go_enter Try.func6, Try.ntmps6
  have hb0 : w.heap.size < W0.heap.size := by omega
  have hb0 : w.heap.size < W0.heap.size := by omega
  have hn1 : ¬ w.heap.size + 1 = w.heap.size := by omega
  have hn2 : ¬ w.heap.size = w.heap.size + 1 := by omega
  go_wp2_with (first | (at_builtin; (refine wpList_appG rfl (.tmp 3) (.tmp 6) 22 rfl W0.heap.size 69 .u32 4 elemS32 (by decide) _ [] rfl hown'.out _ x.gn rfl hsrc'.out (by simp; omega) (by simp) ?_); intro v1 W1 r1 r2 r3 r4; (obtain ⟨A1, c1, W2, e1, hW2, m1, m2, m3, m4, m5, m6, m7, m8⟩ := copied_mid1 hle'.out (by omega) (by omega) r1 r2 k0'.out k1'.out); subst e1; (have i1 := cells4 m2); (have i2 := frozen00 m2 1); (have i3 := cells4 m3); (have i4 := cells4 m4); clear r1 r2 r3 r4; (have hown3' := Lib.hid (own_empty W2 69 W2.heap.size (Nat.le_refl _))); (have hsrc3' := Lib.hid ((p2'.out.le m5).le (le_alloc W2 (.cells #[] 69))).arr); (have hb2 : w.heap.size < W2.heap.size := by omega); (have k02' := Lib.hid m3); (have k12' := Lib.hid m4); (have hle2' := Lib.hid m5); (have ho2' := Lib.hid m6); clear m1 m2 m3 m4 m5 m6 m8 a0 a1 a2 a3 hW0; (obtain ⟨a0, a1, a2, a3⟩ := i1); (obtain ⟨b0, b1, b2, b3⟩ := i3); clear i4) | (at_builtin; go_must (refine wpList_appG rfl (.tmp 10) (.tmp 13) 22 rfl W2.heap.size 69 .u32 4 elemS32 (by decide) _ [] rfl hown3'.out _ x.gd rfl hsrc3'.out (by simp; omega) (by simp) ?_); intro v2 W3 r1 r2 r3 r4; (obtain ⟨A2, c2, W4, e1, hW4, m1, m2, m3, m4, m5, m6, m7, m8⟩ := copied_mid3 hle2'.out (by omega) (by omega) r1 r2 k02'.out k12'.out); subst e1; (have i1 := cells4 m2); (have i2 := frozen00 m2 3); (have i3 := cells4 m3); (have i4 := cells4 m4); clear r1 r2 r3 r4; (have k04' := Lib.hid m3); (have k14' := Lib.hid m4); (have hle4' := Lib.hid m5); (have ho4' := Lib.hid m6); (have ho6' := Lib.hid (m8 _ _ _ _ (by omega) ho2'.out)); (have h0 := frozen00 m4 0); (have h1 := frozen00 m4 1); (have h2 := frozen00 m4 2); (have h3 := frozen00 m4 3); clear m1 m2 m3 m4 m5 m6 m8 a0 a1 a2 a3 b0 b1 b2 b3 hW2; (obtain ⟨a0, a1, a2, a3⟩ := i1); (obtain ⟨b0, b1, b2, b3⟩ := i3); (obtain ⟨f0, f1, f2, f3⟩ := i4)))
  have hle9 := fun u0 u1 u2 u3 => le_set4 (u0 := u0) (u1 := u1) (u2 := u2) (u3 := u3) hle4'.out (show w.heap.size ≤ w.heap.size + 1 by omega)
  have hb9 := fun u0 u1 u2 u3 => cells4 (heap_set4 (u0 := u0) (u1 := u1) (u2 := u2) (u3 := u3) k14'.out)
  have hfin : ∀ u0 u1 u2 u3, IsFracA L ((((W4.setCell ⟨w.heap.size + 1, 0, none⟩ u0).setCell ⟨w.heap.size + 1, 1, none⟩ u1).setCell ⟨w.heap.size + 1, 2, none⟩ u2).setCell ⟨w.heap.size + 1, 3, none⟩ u3) (.agg #[.bool x.sn, .slice A1 x.gn.length c1, .bool x.sd, .slice A2 x.gd.length c2]) x := fun u0 u1 u2 u3 => by
    refine ⟨A1, c1, A2, c2, rfl, ?_, ?_⟩
    · exact ArrL.of_own (own_put_other (own_put_other (own_put_other (own_put_other ho6'.out (by omega) u0) (by omega) u1) (by omega) u2) (by omega) u3) (fun b hb => hL'.out b (by omega))
    · exact ArrL.of_own (own_put_other (own_put_other (own_put_other (own_put_other ho4'.out (by omega) u0) (by omega) u1) (by omega) u2) (by omega) u3) (fun b hb => hL'.out b (by omega))
  obtain ⟨d0, d1, d2, d3⟩ := hb9 (.bool x.sn) (.slice A1 x.gn.length c1) (.bool x.sd) (.slice A2 x.gd.length c2)
  exact bodyPost_ret (v := .agg #[.bool x.sn, .slice A1 x.gn.length c1, .bool x.sd, .slice A2 x.gd.length c2]) (by simp [results, Try.results6, go_sem, d0, d1, d2, d3]) rfl ⟨_, rfl, hle9 _ _ _ _, hfin _ _ _ _⟩
/-- Cells stay cells. -/
def EraB (w w' : World) : Prop := ∀ (b : Nat) (cs : Array Value) (t : TypeId), w.heap[b]? = some (Obj.cells cs t) → ∃ cs', w'.heap[b]? = some (Obj.cells cs' t) ∧ cs'.size = cs.size
theorem EraB.refl (w : World) : EraB w w := fun b cs t h => ⟨cs, h, rfl⟩
theorem EraB.trans {a b c : World} (h : EraB a b) (k : EraB b c) : EraB a c := fun i cs t hi => by
  obtain ⟨cs1, h1, h2⟩ := h i cs t hi
  obtain ⟨cs2, k1, k2⟩ := k i cs1 t h1
  exact ⟨cs2, k1, k2.trans h2⟩
theorem EraB.set (w : World) (b o : Nat) (u : Value) : EraB w (w.setCell ⟨b, o, none⟩ u) := fun i cs t hi => by
  by_cases hb : b = i
  · subst hb
    refine ⟨cs.setIfInBounds o u, ?_, by simp⟩
    simp only [World.setCell, Array.getElem?_modify, hi]
    simp
  · exact ⟨cs, (Below.heap_setCell _ _ _ _ (fun h => hb h.symm)).trans hi, rfl⟩
theorem EraB.of_le {w w' : World} (h : Le w w') : EraB w w' := fun i cs t hi => ⟨cs, (h.block i (Array.getElem?_eq_some_iff.1 hi).1).trans hi, rfl⟩
/-- Only groups turn. -/
def EraC (w w' : World) : Prop := ∀ (b o : Nat) (u : Value), w.cell? ⟨b, o, none⟩ = some u → ∃ u', w'.cell? ⟨b, o, none⟩ = some u' ∧ ((∃ g : Int, u = .int .u32 g) → ∃ g : Int, u' = .int .u32 g) ∧ ((∀ g : Int, u ≠ .int .u32 g) → u' = u)
theorem EraC.refl (w : World) : EraC w w := fun b o u h => ⟨u, h, id, fun _ => rfl⟩
theorem EraC.trans {a b c : World} (h : EraC a b) (k : EraC b c) : EraC a c := fun i o u hu => by
  obtain ⟨u1, h1, h2, h3⟩ := h i o u hu
  obtain ⟨u2, k1, k2, k3⟩ := k i o u1 h1
  refine ⟨u2, k1, fun hg => k2 (h2 hg), fun hn => ?_⟩
  have := h3 hn
  subst this
  exact k3 hn
theorem cell_lt {w : World} {b o : Nat} {u : Value} (h : w.cell? ⟨b, o, none⟩ = some u) : b < w.heap.size := by
  refine Nat.lt_of_not_le fun hge => ?_
  have : w.heap[b]? = none := Array.getElem?_eq_none hge
  unfold World.cell? at h
  simp [this] at h
theorem EraC.of_le {w w' : World} (h : Le w w') : EraC w w' := fun b o u hu => ⟨u, (Below.cell h (p := ⟨b, o, none⟩) (cell_lt hu)).trans hu, id, fun _ => rfl⟩
theorem EraC.set {w : World} {b o : Nat} {cs : Array Value} {t : TypeId} {g g' : Int} (hk : w.heap[b]? = some (Obj.cells cs t)) (hc : w.cell? ⟨b, o, none⟩ = some (.int .u32 g)) : EraC w (w.setCell ⟨b, o, none⟩ (.int .u32 g')) := fun i j u hu => by
  by_cases hb : i = b
  · subst hb
    have hk2 : (w.setCell ⟨i, o, none⟩ (.int .u32 g')).heap[i]? = some (.cells (cs.setIfInBounds o (.int .u32 g')) t) := by
      simp only [World.setCell, Array.getElem?_modify, hk]
      simp
    rw [cell_of_row _ _ _ _ t (0, 0) hk] at hu hc
    by_cases hj : j = o
    · subst hj
      refine ⟨.int .u32 g', ?_, fun _ => ⟨g', rfl⟩, fun hn => ?_⟩
      · rw [cell_of_row _ _ _ _ t (0, 0) hk2, Array.getElem?_setIfInBounds]
        have := (Array.getElem?_eq_some_iff.1 hu).1
        simp [this]
      · rw [hc] at hu
        injection hu with hu
        exact absurd hu.symm (hn g)
    · refine ⟨u, ?_, id, fun _ => rfl⟩
      rw [cell_of_row _ _ _ _ t (0, 0) hk2, Array.getElem?_setIfInBounds, if_neg (fun h => hj h.symm)]
      exact hu
  · exact ⟨u, (World.cell?_of_block (Below.heap_setCell _ _ _ _ hb)).trans hu, id, fun _ => rfl⟩
/-- A slice whose cells may be written, from block B0 on. -/
def EraS (w : World) (B0 : Nat) (A : Option Addr) (n : Nat) : Prop := n ≤ 1000000 ∧ (0 < n → ∃ b off cs t, A = some ⟨b, off, none⟩ ∧ B0 ≤ b ∧ w.heap[b]? = some (Obj.cells cs t) ∧ ∀ j, j < n → ∃ g : Int, w.cell? ⟨b, off + j, none⟩ = some (.int .u32 g))
def EraF (w : World) (B0 : Nat) (v : Value) : Prop := ∃ s A n c s' B m d, v = .agg #[.bool s, .slice A n c, .bool s', .slice B m d] ∧ EraS w B0 A n ∧ EraS w B0 B m
theorem EraS.to {w w' : World} {B0 : Nat} {A : Option Addr} {n : Nat} (h : EraS w B0 A n) (k : EraB w w') (kc : EraC w w') : EraS w' B0 A n := ⟨h.1, fun h0 => by
  obtain ⟨b, off, cs, t, e, hb, hk, hs⟩ := h.2 h0
  obtain ⟨cs', k1, k2⟩ := k b cs t hk
  refine ⟨b, off, cs', t, e, hb, k1, fun j hj => ?_⟩
  obtain ⟨g, hg⟩ := hs j hj
  obtain ⟨u', q1, q2, -⟩ := kc b (off + j) _ hg
  obtain ⟨g', hg'⟩ := q2 ⟨g, rfl⟩
  exact ⟨g', by rw [q1, hg']⟩⟩
theorem EraF.to {w w' : World} {B0 : Nat} {v : Value} (h : EraF w B0 v) (k : EraB w w') (kc : EraC w w') : EraF w' B0 v := by
  obtain ⟨s, A, n, c, s', B, m, d, e, h1, h2⟩ := h
  exact ⟨s, A, n, c, s', B, m, d, e, h1.to k kc, h2.to k kc⟩
theorem NumU.era {L : Nat → Prop} {w : World} {A : Option Addr} {n c x B0 : Nat} (h : NumU L w (.slice A n c) x) (hL : ∀ b, L b → B0 ≤ b) (hx : (dg x).length ≤ 1000000) : EraS w B0 A n := by
  obtain ⟨⟨A', c', e, h1, h2, hN, h3⟩, hu⟩ := h
  injection e with e1 e2 e3
  subst e1 e2
  refine ⟨hx, fun h0 => ?_⟩
  obtain ⟨b, off, rfl, hb, hlt, hc⟩ := h3 h0
  obtain ⟨cs, t, hk⟩ := hu b off _ _ rfl
  exact ⟨b, off, cs, t, rfl, hL b hb, hk, fun j hj => ⟨_, hc j hj⟩⟩
theorem IsRes.era {L : Nat → Prop} {w : World} {v : Value} {c : Int} {res : Except Int Rat} {B0 : Nat} (h : IsRes L w v c res) (hL : ∀ b, L b → B0 ≤ b) (hs : ∀ r, res = .ok r → Rsz r 40) : EraF w B0 v := by
  cases res with
  | ok r =>
    obtain ⟨⟨A, c', B, d, rfl, h1, h2⟩, -⟩ := h
    have := hs r rfl
    exact ⟨_, _, _, _, _, _, _, _, rfl, h1.era hL (Nat.le_trans this.1 (by decide)), h2.era hL (Nat.le_trans this.2 (by decide))⟩
  | error x =>
    obtain ⟨rfl, -⟩ := h
    exact ⟨_, _, _, _, _, _, _, _, rfl, ⟨by omega, fun h => by omega⟩, ⟨by omega, fun h => by omega⟩⟩
set_option maxRecDepth 100000 in
set_option maxHeartbeats 2000000 in
theorem pf_erase (B0 : Nat) (v : Value) (w : World) (hB : B0 ≤ w.heap.size) (h : EraF w B0 v) :
    Calls Try.prog 26 #[v] w fun e w' => e = .returned (.tuple #[]) ∧ Below B0 w w' ∧ EraB w w' ∧ EraC w w' := by
  obtain ⟨s, A, n, c, s', B, m, d, rfl, hn, hm⟩ := h
  obtain ⟨W0, hW0, hle, k0⟩ : ∃ W0, w.alloc (.cells #[.bool s, .slice A n c, .bool s', .slice B m d] 26) = W0 ∧ Le w W0 ∧ W0.heap[w.heap.size]? = some (.cells #[.bool s, .slice A n c, .bool s', .slice B m d] 26) := ⟨_, rfl, le_alloc _ _, by unfold World.alloc; exact Array.getElem?_push_size⟩
  have hn0 := hn.1
  have hm0 := hm.1
  have hb0 := hle.mono hB
  have hbl : ∀ (A : Option Addr) (n b off : Nat), EraS w B0 A n → 0 < n → A = some ⟨b, off, none⟩ → b < w.heap.size := fun A n b off hA h0 e => by
    obtain ⟨b', off', cs, t, e', hb, hk, -⟩ := hA.2 h0
    rw [e] at e'
    injection e' with e'
    injection e' with e'
    subst e'
    exact (Array.getElem?_eq_some_iff.1 hk).1
  obtain ⟨a0, a1, a2, a3⟩ := cells4 k0
  have hle' := Lib.hid hle
  have k0' := Lib.hid k0
  have hb0' := Lib.hid hb0
  have hn' := Lib.hid hn
  have hm' := Lib.hid hm
  have hbl' := Lib.hid hbl
  clear hbl hm hn hb0 k0 hle
  go_enter Try.func26, Try.ntmps26
  go_wp2
  clear hW0
  go_loopw [8] (fun i wr => ∃ k : Nat, k ≤ n ∧ i = .int .i64 k ∧ Hid (wr.heap[w.heap.size]? = some (.cells #[.bool s, .slice A n c, .bool s', .slice B m d] 26)) ∧ Hid (Below B0 w wr) ∧ Hid (EraB w wr ∧ EraC w wr)) (fun i _ => n - (intOf i).toNat)
  case atStart => exact ⟨0, Nat.zero_le _, rfl, k0', hb0', Lib.hid ⟨EraB.of_le hle'.out, EraC.of_le hle'.out⟩⟩
  case round =>
    obtain ⟨k, hk, rfl, hbx, hbe, her⟩ := hrel
    clear a0 a1 a2 a3
    obtain ⟨a0, a1, a2, a3⟩ := cells4 hbx.out
    by_cases hlt : k < n
    · obtain ⟨b, off, cs, t, rfl, hb, hkb, hsz⟩ := (hn'.out.to her.out.1 her.out.2).2 (by omega)
      have hbw := hbl'.out _ n b off hn'.out (by omega) rfl
      obtain ⟨u, hu⟩ := hsz k (by omega)
      have hfr := frozen00 hkb (off + k)
      have hlt2 : (k : Int) < (n : Int) := by omega
      have hne : ¬ b = w.heap.size := by omega
      have k1 : Hid ((wr.setCell ⟨b, off + k, none⟩ (.int .u32 7)).heap[w.heap.size]? = some (.cells #[.bool s, .slice (some ⟨b, off, none⟩) n c, .bool s', .slice B m d] 26)) := Lib.hid ((Below.heap_setCell _ _ _ _ (fun h => hne h.symm)).trans hbx.out)
      have k2 : Hid (Below B0 w (wr.setCell ⟨b, off + k, none⟩ (.int .u32 7))) := Lib.hid (hbe.out.setCell (p := ⟨b, off + k, none⟩) hb _)
      have k3 : Hid (EraB w (wr.setCell ⟨b, off + k, none⟩ (.int .u32 7)) ∧ EraC w (wr.setCell ⟨b, off + k, none⟩ (.int .u32 7))) := Lib.hid ⟨her.out.1.trans (EraB.set _ _ _ _), her.out.2.trans (EraC.set hkb hu)⟩
      clear hbx hbe her hne
      have hkb' := Lib.hid hkb
      have hsz' := Lib.hid hsz
      clear hsz hkb
      go_wp2
      go_roundw
      case rel => exact ⟨k + 1, by omega, by go_num, k1, k2, k3⟩
      case measure => simp [intOf]; omega
    · have hlt2 : ¬ (k : Int) < (n : Int) := by omega
      rename World => w0
      go_wp2
      go_loopw [21] (fun i wr => ∃ k : Nat, k ≤ m ∧ i = .int .i64 k ∧ Hid (wr.heap[w.heap.size]? = some (.cells #[.bool s, .slice A n c, .bool s', .slice B m d] 26)) ∧ Hid (Below B0 w wr) ∧ Hid (EraB w wr ∧ EraC w wr)) (fun i _ => m - (intOf i).toNat)
      case atStart => exact ⟨0, Nat.zero_le _, rfl, hbx, hbe, her⟩
      case round =>
        obtain ⟨k2, hk2, rfl, hbx2, hbe2, her2⟩ := hrel
        clear a0 a1 a2 a3
        obtain ⟨a0, a1, a2, a3⟩ := cells4 hbx2.out
        by_cases hlt3 : k2 < m
        · obtain ⟨b, off, cs, t, rfl, hb, hkb, hsz⟩ := (hm'.out.to her2.out.1 her2.out.2).2 (by omega)
          have hbw := hbl'.out _ m b off hm'.out (by omega) rfl
          obtain ⟨u, hu⟩ := hsz k2 (by omega)
          have hfr := frozen00 hkb (off + k2)
          have hlt4 : (k2 : Int) < (m : Int) := by omega
          have hne : ¬ b = w.heap.size := by omega
          have k1 : Hid ((wr.setCell ⟨b, off + k2, none⟩ (.int .u32 7)).heap[w.heap.size]? = some (.cells #[.bool s, .slice A n c, .bool s', .slice (some ⟨b, off, none⟩) m d] 26)) := Lib.hid ((Below.heap_setCell _ _ _ _ (fun h => hne h.symm)).trans hbx2.out)
          have k2' : Hid (Below B0 w (wr.setCell ⟨b, off + k2, none⟩ (.int .u32 7))) := Lib.hid (hbe2.out.setCell (p := ⟨b, off + k2, none⟩) hb _)
          have k3 : Hid (EraB w (wr.setCell ⟨b, off + k2, none⟩ (.int .u32 7)) ∧ EraC w (wr.setCell ⟨b, off + k2, none⟩ (.int .u32 7))) := Lib.hid ⟨her2.out.1.trans (EraB.set _ _ _ _), her2.out.2.trans (EraC.set hkb hu)⟩
          clear hbx2 hbe2 her2 hne
          have hkb' := Lib.hid hkb
          have hsz' := Lib.hid hsz
          clear hsz hkb
          go_wp2
          go_roundw
          case rel => exact ⟨k2 + 1, by omega, by go_num, k1, k2', k3⟩
          case measure => simp [intOf]; omega
        · have hlt4 : ¬ (k2 : Int) < (m : Int) := by omega
          go_wp2
          go_end0
          exact ⟨rfl, hbe2.out, her2.out.1, her2.out.2⟩
end Go.Proofs.Ytemdemfknnkcaaa
