/- reference 1: fractions: Order. reference 1: fractions: written. reference 1: fractions: Out. -/
import Derived.Test.YtabfaobakmjiaaaGreatPk19
namespace Go.Proofs.YtabfaobakmjiaaaGreat
set_option maxRecDepth 100000
set_option maxHeartbeats 4000000
open Go.RowKit Go.Shelf
set_option linter.unusedVariables false
set_option linter.unusedSimpArgs false
theorem qA6 (w : World) (o0 o1 : Obj) : ∃ W0, (w.alloc o0).alloc o1 = W0 ∧ W0.heap.size = w.heap.size + 2 ∧ Le w W0 ∧ W0.heap[w.heap.size]? = some o0 ∧ W0.heap[w.heap.size + 1]? = some o1 := by
 obtain ⟨h1, h2, h3⟩ := qBC (Le.refl ((w.alloc o0).alloc o1));exact ⟨_, rfl, by simp, h1, h2, h3⟩
theorem qLo : qC2 Tryz.prog 72 196 (.int .u32 0) 4 := ⟨Tryz.underlying72, by kernel_rfl, rfl⟩
theorem qAx {W : World} {X : Nat} {v0 v1 : Value} {t : TypeId} (h : W.heap[X]? = some (Obj.cells #[v0, v1] t)) : W.cell? ⟨X, 0, none⟩ = some v0 ∧ W.cell? ⟨X, 1, none⟩ = some v1 :=
 ⟨cell_of_row W X 0 _ _ _ h, cell_of_row W X 1 _ _ _ h⟩
theorem qI2 {W : World} {X : Nat} {v0 v1 u : Value} {t : TypeId} (h : W.heap[X]? = some (Obj.cells #[v0, v1] t)) : (W.setCell ⟨X, 1, none⟩ u).heap[X]? = some (.cells #[v0, u] t) := by
 simp only [World.setCell, Array.getElem?_modify, h];simp
theorem qAp {W : World} {X : Nat} {v0 v1 u0 u1 : Value} {t : TypeId} (h : W.heap[X]? = some (Obj.cells #[v0, v1] t)) : ((W.setCell ⟨X, 0, none⟩ u0).setCell ⟨X, 1, none⟩ u1).heap[X]? = some (.cells #[u0, u1] t) := by
 simp only [World.setCell, Array.getElem?_modify, h];simp
theorem qDc {w : World} {base : Nat} {e : TypeId} {v : Value} {n : Nat} {xs : List Value} (h : w.ownsRow base e 1 v n xs) {b o : Nat} (hb : b < base) (u : Value) : (w.setCell ⟨b, o, none⟩ u).ownsRow base e 1 v n xs := by
 obtain ⟨h1, h2⟩ := h;refine ⟨h1, ?_⟩
 rcases h2 with h2 | ⟨g, cap, cur, hv, hg, hh, r⟩
 ·exact Or.inl h2
 ·exact Or.inr ⟨g, cap, cur, hv, hg, (Below.heap_setCell _ _ _ _ (show g ≠ b by omega)).trans hh, r⟩
structure WrG (base : Nat) (e : TypeId) (s : Value) (pre : List Nat) (g : Nat) (D : Nat → Bool) (x : Nat → Value) (W : World) : Prop where
 own : D 8 = false → W.ownsRow base e 1 s pre.length (pre.map (gv .u32))
 one : D 7 = true → Arr (gv .u32) W (x 7) [g] ∨ D 8 = true
 done : D 8 = true → W.ownsRow base e 1 (x 8) (pre ++ [g]).length ((pre ++ [g]).map (gv .u32))
theorem WrG.quiet {base : Nat} {e : TypeId} {s : Value} {pre : List Nat} {g : Nat} {D : Nat → Bool} {x : Nat → Value} {W W' : World} {i : Nat} {v : Value} (h : WrG base e s pre g D x W) (hle : Le W W') (h7 : i ≠ 7) (h8 : i ≠ 8) : WrG base e s pre g (updB D i) (updV x i v) W' := by
 have e7 : ∀ j, j ≠ i → updB D i j = D j := fun j hj => by simp [updB, hj]
 have e8 : ∀ j, j ≠ i → updV x i v j = x j := fun j hj => by simp [updV, hj]
 refine ⟨?_, ?_, ?_⟩
 ·rw [e7 8 (Ne.symm h8)]; exact fun hd => qAb (h.own hd) hle
 ·rw [e7 7 (Ne.symm h7), e8 7 (Ne.symm h7), e7 8 (Ne.symm h8)]; exact fun hd => (h.one hd).imp (fun k => k.below hle) id
 ·rw [e7 8 (Ne.symm h8), e8 8 (Ne.symm h8)]; exact fun hd => qAb (h.done hd) hle
theorem qFC (L L2 : Nat → Prop) (s : Bool) (n : Nat) (vn : Value) (w : World) (hL : Up w L) (hn : NumL L2 .i64 w vn n) (hs : (dg n).length ≤ 1000) :
  Calls Tryz.prog 165 #[.bool s, vn] w fun e w' => ∃ A c, e = .returned (.agg #[.bool s, .slice A (dg n).length c]) ∧ Le w w' ∧ NumU L w' (.slice A (dg n).length c) n := by
 obtain ⟨A, c, rfl, a1, a2, aN, a3⟩ := hn;unfold maxLen at a2;have hB := qAS;have ⟨hL', a3', aN', hB'⟩ := hyd4 hL a3 aN hB;clear hB aN a3 hL;go_enter Tryz.func165, Tryz.ntmps165;go_wp2;obtain ⟨W0, hW0, hsz, hle, h0, h1⟩ := qA6 w (.cells #[.bool false, .slice none 0 0] 74) (.cells #[.bool s, .slice none 0 0] 74);rw [hW0];have ⟨hW0', hle', h0', h1'⟩ := hyd4 hW0 hle h0 h1;clear h1 h0 hle hW0;go_loopw [6] (fun i wr => ∃ (k : Nat) (pre : List Nat) (v : Value), k ≤ (dg n).length ∧ i = .int .i64 k ∧ pre.length = k ∧ Hid (pre = (dg n).take k) ∧ Hid (wr.heap[w.heap.size + 1]? = some (.cells #[.bool s, v] 74)) ∧ Hid (wr.heap[w.heap.size]? = some (.cells #[.bool false, .slice none 0 0] 74)) ∧ Hid (Below w.heap.size w wr) ∧ Hid (wr.ownsRow (w.heap.size + 2) 196 1 v pre.length (pre.map (gv .u32))) ∧ w.heap.size + 2 ≤ wr.heap.size) (fun i _ => (dg n).length - (intOf i).toNat)
 case atStart => exact ⟨0, [], _, Nat.zero_le _, rfl, rfl, Lib.hid (by simp), h1', h0', hle', Lib.hid (World.ownsRow_nil _ _ _ _), by omega⟩
 case round =>
  obtain ⟨k, pre, v, hk, rfl, hpl, hpre, hb1, hb0, hbl, hown, hsz2⟩ := hrel
  by_cases hlt : k < (dg n).length
  ·obtain ⟨bx, ox, rfl, -, hbx, hcx⟩ := a3'.out (by omega);have hckx := (hbl.out.cell (p := ⟨bx, ox + k, none⟩) hbx).trans (hcx k hlt);unfold gv at hckx;clear hcx;obtain ⟨g, hg⟩ : ∃ g, (dg n)[k] = g := ⟨_, rfl⟩;have hgB : g < 1000000000 := by rw [← hg, ← hB'.out]; exact qAm _ _ _
   rw [hg] at hckx;have hpre2 : Hid (pre ++ [g] = (dg n).take (k + 1)) := Lib.hid (by rw [hpre.out, List.take_succ_eq_append_getElem hlt, hg]);obtain ⟨Av, cv, ev, -⟩ := (ArrL.of_own hown.out (L := fun _ => True) fun _ _ => trivial : ArrL _ (gv .u32) _ _ _);subst ev;obtain ⟨cb0, cb1⟩ := qAx hb1.out;have hB2 := hbl.out;have ⟨hg', hpl'⟩ := hyd2 hg hpl;clear hpl hg;go_wp2_with (fail);refine qFY (R := qAw (w.heap.size + 2)) 10 [some 15, some 16, some 17, some 18, some 19, some 20, some 21, some 22, some 23, some 24, none] [[], [0], [], [], [2, 3], [4], [5], [6], [1, 7], [], [8, 9]]
    [.eq (.pointer (some ⟨w.heap.size + 1, 1, none⟩)), .eq (.slice Av pre.length cv), .eq (.slice (some ⟨bx, ox, none⟩) (dg n).length c), .eq (.int .i64 k), .eq (.pointer (some ⟨bx, ox + k, none⟩)), .eq (.int .i64 g), .eq (.int .u32 g), .any, .any, .eq (.pointer (some ⟨w.heap.size + 1, 1, none⟩))]
    (WrG (w.heap.size + 2) 196 (.slice Av pre.length cv) pre g) (fun _ _ => False) (by kernel_rfl) (by kernel_rfl) (by kernel_rfl) (by kernel_rfl) (by kernel_rfl) ?_ ?_ (fun _ _ _ _ h => h.elim) ?_
   ·exact fun D x hD => ⟨fun _ => qAb hown.out Le.drew, fun h => absurd h (by rw [hD 7 (by decide)]; simp), fun h => absurd h (by rw [hD 8 (by decide)]; simp)⟩
   ·simp only [List.take_succ_cons, List.take_zero];refine sGc rfl ?_ (sGc rfl ?_ (sGc rfl ?_ (sGc rfl ?_ (sGc rfl ?_ (sGc rfl ?_ (sGc rfl ?_ (sGc rfl ?_ (sGc rfl ?_ (sGc rfl ?_ (qBo))))))))))
    ·intro D x W hD hdn hR hf hG Q hK _;have hRW := hR hsz2;simp only [fA] at hK ⊢;go_wp2;exact hK _ _ ((qAw _).refl _) rfl (hG.quiet (Le.refl _) (by decide) (by decide))
    ·intro D x W hD hdn hR hf hG Q hK _;have hRW := hR hsz2;obtain ⟨e0, -⟩ := hf;change _ = _ at e0;have cc := (Below.cell hRW (p := ⟨w.heap.size + 1, 1, none⟩) (by show w.heap.size + 1 < w.heap.size + 2; omega)).trans cb1;simp only [fA, e0] at hK ⊢;go_wp2;exact hK _ _ ((qAw _).refl _) rfl (hG.quiet (Le.refl _) (by decide) (by decide))
    ·intro D x W hD hdn hR hf hG Q hK _;have hRW := hR hsz2;simp only [fA] at hK ⊢;go_wp2;exact hK _ _ ((qAw _).refl _) rfl (hG.quiet (Le.refl _) (by decide) (by decide))
    ·intro D x W hD hdn hR hf hG Q hK _;have hRW := hR hsz2;simp only [fA] at hK ⊢;go_wp2;exact hK _ _ ((qAw _).refl _) rfl (hG.quiet (Le.refl _) (by decide) (by decide))
    ·intro D x W hD hdn hR hf hG Q hK _;have hRW := hR hsz2;obtain ⟨e0, e1, -⟩ := hf;change _ = _ at e0 e1;simp only [fA, e0, e1] at hK ⊢;go_wp2;exact hK _ _ ((qAw _).refl _) rfl (hG.quiet (Le.refl _) (by decide) (by decide))
    ·intro D x W hD hdn hR hf hG Q hK _;have hRW := hR hsz2;obtain ⟨e0, -⟩ := hf;change _ = _ at e0;have cc := (Below.cell hRW (p := ⟨bx, ox + k, none⟩) (by show bx < w.heap.size + 2; omega)).trans hckx;simp only [fA, e0] at hK ⊢;go_wp2;exact hK _ _ ((qAw _).refl _) rfl (hG.quiet (Le.refl _) (by decide) (by decide))
    ·intro D x W hD hdn hR hf hG Q hK _;have hRW := hR hsz2;obtain ⟨e0, -⟩ := hf;change _ = _ at e0;simp only [fA, e0] at hK ⊢;go_wp2;exact hK _ _ ((qAw _).refl _) rfl (hG.quiet (Le.refl _) (by decide) (by decide))
    ·intro D x W hD hdn hR hf hG Q hK _;have hRW := hR hsz2;obtain ⟨e0, -⟩ := hf;change _ = _ at e0;simp only [fA, e0] at hK ⊢;go_wp2;exact hK _ _ (fun hz => (alc1 _ _).mono hz) trivial ⟨fun h => qAb (hG.own (by simpa [updB] using h)) (qAA _ _), fun _ => .inl (by simpa [updV] using qBR .u32 _ _ g), fun h => qAb (hG.done (by simpa [updB] using h)) (qAA _ _) |> (by simpa [updV] using ·)⟩
    ·intro D x W hD hdn hR hf hG Q hK _;have hRW := hR hsz2;obtain ⟨e0, -, -⟩ := hf;change _ = _ at e0;have hone : Arr (gv .u32) W (x 7) [g] := (hG.one (hdn 7 (by decide))).resolve_right (by rw [hD]; simp);have hownW := hG.own hD;simp only [fA, e0] at hK ⊢;have hzW := hRW.size;have ⟨hone', hownW', hG', hRW', hR'⟩ := hyd5 hone hownW hG hRW hR;clear hR hRW hG hownW hone;go_wp2_with (at_builtin; go_must (refine qAY rfl (.tmp 16) (.tmp 22) 72 rfl (w.heap.size + 2) 196 .u32 4 qLo (by decide) _ pre rfl hownW'.out _ [g] rfl hone'.out (by have := hpl'.out; simp; omega) (by omega) ?_); intro v' w' r1 r2 r3 r4);have ⟨r1', r2'⟩ := hyd2 r1 r2;clear r1 r2 r3 r4;go_wp2;exact hK _ _ (fun _ => r2'.out) trivial ⟨fun h => by simp [updB] at h, fun _ => .inr (by simp [updB]), fun _ => by simpa [updV] using r1'.out⟩
    ·intro D x W hD hdn hR hf hG Q hK _;have hRW := hR hsz2;simp only [fA] at hK ⊢;go_wp2;exact hK _ _ ((qAw _).refl _) rfl (hG.quiet (Le.refl _) (by decide) (by decide))
   ·intro D x W hD hR hf hG Q' hQ1 _;have hRW := hR hsz2;have hown2 := hG.done (hD 8 (by decide));have e0 := hf 0 (by decide);have e1 := hf 1 (by decide);have e2 := hf 2 (by decide);have e3 := hf 3 (by decide);have e4 := hf 4 (by decide);have e5 := hf 5 (by decide);have e6 := hf 6 (by decide);have e9 := hf 9 (by decide);change _ = _ at e0 e1 e2 e3 e4 e5 e6 e9;simp only [List.drop_succ_cons, List.drop_zero];rw [show List.range 10 = [0, 1, 2, 3, 4, 5, 6, 7, 8, 9] from rfl];simp only [fA, e0, e1, e2, e3, e4, e5, e6, e9];generalize x 7 = x7;generalize x 8 = x8 at *;have hb1W := (hRW.block (w.heap.size + 1) (by omega)).trans hb1.out;have hb0W := (hRW.block w.heap.size (by omega)).trans hb0.out;have hz9 : w.heap.size + 2 ≤ W.heap.size := Nat.le_trans hsz2 hRW.size;obtain ⟨z0, z1⟩ := qAx hb1W;have g1 := fz0 hb1W 1;have k1 := qI2 (u := x8) hb1W;have k0 : (W.setCell ⟨w.heap.size + 1, 1, none⟩ x8).heap[w.heap.size]? = _ := (Below.heap_setCell _ _ _ _ (show w.heap.size ≠ w.heap.size + 1 by omega)).trans hb0W;have k2 : Below w.heap.size w (W.setCell ⟨w.heap.size + 1, 1, none⟩ x8) := (hB2.trans (hRW.mono (by omega))).setCell (p := ⟨w.heap.size + 1, 1, none⟩) (by show w.heap.size ≤ w.heap.size + 1; omega) _;have k3 := qDc hown2 (o := 1) (show w.heap.size + 1 < w.heap.size + 2 by omega) x8;have k4 : w.heap.size + 2 ≤ (W.setCell ⟨w.heap.size + 1, 1, none⟩ x8).heap.size := by simpa [World.setCell] using hz9
    obtain ⟨A8, c8, e8, -⟩ := (ArrL.of_own hown2 (L := fun _ => True) fun _ _ => trivial : ArrL _ (gv .u32) _ _ _);replace e8 : x8 = .slice A8 (pre.length + 1) c8 := by rw [e8]; simp
    subst e8;clear e0 e1 e2 e3 e4 e5 e6 e9 hf hG hD hown2 hRW hB2 cb0 cb1 hckx hb0 hb1 hown hbl;have ⟨k0', k1', k2', k3', hb1W', hb0W', hR'⟩ := hyd7 k0 k1 k2 k3 hb1W hb0W hR;clear hR hb0W hb1W k3 k2 k1 k0;go_wp2;refine hQ1 _ _ ?_;go_wp2;go_roundw
    case rel => exact ⟨k + 1, pre ++ [g], _, by omega, by go_num, by have := hpl'.out; simp; omega, hpre2, k1', k0', k2', k3', k4⟩
    case measure => simp [intOf]; omega
  ·obtain rfl : k = (dg n).length := by omega
   have hpg : pre = dg n := by rw [hpre.out, List.take_length]
   subst hpg;obtain ⟨Av, cv, ev, -⟩ := (ArrL.of_own hown.out (L := fun _ => True) fun _ _ => trivial : ArrL _ (gv .u32) _ _ _);subst ev;obtain ⟨cb0, cb1⟩ := qAx hb1.out;obtain ⟨za0, za1⟩ := qAx hb0.out;have ⟨g0, g1⟩ := frz2 hb0.out;have hb9 := fun u0 u1 => qAx (qAp (u0 := u0) (u1 := u1) hb0.out);have hle9 : ∀ u0 u1, Le w ((wr.setCell ⟨w.heap.size, 0, none⟩ u0).setCell ⟨w.heap.size, 1, none⟩ u1) := fun u0 u1 => (hbl.out.setCell (p := ⟨w.heap.size, 0, none⟩) (Nat.le_refl _) _).setCell (p := ⟨w.heap.size, 1, none⟩) (Nat.le_refl _) _
   have hfin : ∀ u0 u1, NumU L ((wr.setCell ⟨w.heap.size, 0, none⟩ u0).setCell ⟨w.heap.size, 1, none⟩ u1) (.slice Av (dg n).length cv) n := fun u0 u1 => by
    have ho := qDc (qDc hown.out (o := 0) (show w.heap.size < w.heap.size + 2 by omega) u0) (o := 1) (show w.heap.size < w.heap.size + 2 by omega) u1;exact ⟨ArrL.of_own ho (fun b hb => hL'.out b (by omega)), Unf.own ho⟩
   have ⟨hb9', hle9', hfin', hb1', hb0', hown', hbl', hpre'⟩ := hyd8 hb9 hle9 hfin hb1 hb0 hown hbl hpre;clear hpre hbl hown hb0 hb1 hfin hle9 hb9;go_wp2;obtain ⟨d0, d1⟩ := hb9'.out (.bool s) (.slice Av (dg n).length cv);exact bodyPost_ret (v := .agg #[.bool s, .slice Av (dg n).length cv]) (by simp [results, Tryz.results165, go_sem, d0, d1]) rfl ⟨_, _, rfl, hle9'.out _ _, hfin'.out _ _⟩
def qCl : Value := .agg #[.bool false, .slice none 0 0, .bool false, .slice none 0 0]
def qLp (L : Nat → Prop) (r : Rat) (w : World) (e : Ending) (w' : World) : Prop := Le w w' ∧ ((Rsz r 40 ∧ ∃ v, e = .returned (.tuple #[v, .int .i64 0]) ∧ FracL L w' v r) ∨ (¬ Rsz r 40 ∧ e = .returned (.tuple #[qCl, .int .i64 12])))
def qKd (L : Nat → Prop) (w : World) (v : Value) (s : Bool) (n : Nat) : Prop := ∃ A c, v = .agg #[.bool s, .slice A (dg n).length c] ∧ NumU L w (.slice A (dg n).length c) n
theorem FracL.le {L : Nat → Prop} {w W : World} {v : Value} {r : Rat} (h : FracL L w v r) (hb : Le w W) : FracL L W v r := by
 obtain ⟨A, c, B, d, e, h1, h2⟩ := h;exact ⟨A, c, B, d, e, h1.le hb, h2.le hb⟩
structure OutG (L : Nat → Prop) (w0 : World) (X : Nat) (t : TypeId) (r : Rat) (D : Nat → Bool) (x : Nat → Value) (W : World) : Prop where
 w4 : D 4 = true → qKd L W (x 4) (rneg r) (rnum r)
 w7 : D 7 = true → qKd L W (x 7) false r.den
 w8 : D 8 = true → FracL L W (x 8) r
 box : D 9 = false → W.heap[X]? = some (.cells #[.bool false, .slice none 0 0, .bool false, .slice none 0 0] t)
 fin : D 9 = true → D 8 = true ∧ ∃ A c B d, x 8 = .agg #[.bool (rneg r), .slice A (dg (rnum r)).length c, .bool false, .slice B (dg r.den).length d] ∧ W.heap[X]? = some (.cells #[.bool (rneg r), .slice A (dg (rnum r)).length c, .bool false, .slice B (dg r.den).length d] t)
 le : Le w0 W
theorem OutG.quiet {L : Nat → Prop} {w0 : World} {X : Nat} {t : TypeId} {r : Rat} {D : Nat → Bool} {x : Nat → Value} {W W' : World} {i : Nat} {v : Value} (h : OutG L w0 X t r D x W) (hle : Le W W') (h4 : i ≠ 4) (h7 : i ≠ 7) (h8 : i ≠ 8) (h9 : i ≠ 9) : OutG L w0 X t r (updB D i) (updV x i v) W' := by
 have e7 : ∀ j, j ≠ i → updB D i j = D j := fun j hj => by simp [updB, hj]
 have e8 : ∀ j, j ≠ i → updV x i v j = x j := fun j hj => by simp [updV, hj]
 refine ⟨?_, ?_, ?_, ?_, ?_, h.le.trans hle⟩
 ·rw [e7 4 (Ne.symm h4), e8 4 (Ne.symm h4)]; exact fun hd => by obtain ⟨A, c, k1, k2⟩ := h.w4 hd; exact ⟨A, c, k1, k2.le hle⟩
 ·rw [e7 7 (Ne.symm h7), e8 7 (Ne.symm h7)]; exact fun hd => by obtain ⟨A, c, k1, k2⟩ := h.w7 hd; exact ⟨A, c, k1, k2.le hle⟩
 ·rw [e7 8 (Ne.symm h8), e8 8 (Ne.symm h8)]; exact fun hd => (h.w8 hd).le hle
 ·rw [e7 9 (Ne.symm h9)]; exact fun hd => (hle.block X (gsl (h.box hd))).trans (h.box hd)
 ·rw [e7 9 (Ne.symm h9), e7 8 (Ne.symm h8), e8 8 (Ne.symm h8)]
  exact fun hd => by
   obtain ⟨k0, A, c, B, d, k1, k2⟩ := h.fin hd;exact ⟨k0, A, c, B, d, k1, (hle.block X (gsl k2)).trans k2⟩
theorem qFk (L L2 : Nat → Prop) (r : Rat) (v : Value) (w : World) (hL : Up w L) (h : RatL L2 .i64 w v r) :
  Calls Tryz.prog 115 #[v] w (qLp L r w) := by
 obtain ⟨An, cn, Ad, cd, rfl, hn, hd⟩ := h.form;obtain ⟨sr, hsr⟩ : ∃ sr, rneg r = sr := ⟨_, rfl⟩;rw [hsr];have hln : ((dg (rnum r)).length : Int) ≤ 9223372036854775807 := by obtain ⟨A9, c9, e9, q1, q2, -⟩ := hn; unfold maxLen at q2; omega
 have hld : ((dg r.den).length : Int) ≤ 9223372036854775807 := by obtain ⟨A9, c9, e9, q1, q2, -⟩ := hd; unfold maxLen at q2; omega
 by_cases hbig : 40 < (dg (rnum r)).length ∨ 40 < (dg r.den).length
 ·have hno : ¬ Rsz r 40 := by unfold Rsz; omega
  obtain ⟨W0, hW0, hsz, hle, h0, h1⟩ := qA6 w (.cells #[.bool sr, .slice An (dg (rnum r)).length cn, .slice Ad (dg r.den).length cd] 200) (.cells #[.bool false, .slice none 0 0, .bool false, .slice none 0 0] 76);have ⟨h', hL', hn', hd', hsr', hno', hW0', hle'⟩ := hyd8 h hL hn hd hsr hno hW0 hle;have ⟨h0', h1'⟩ := hyd2 h0 h1;clear h1 h0 hle hW0 hno hsr hd hn hL h
  rcases hbig with hb | hb
  ·have hb1 : 40 < ((dg (rnum r)).length : Int) := by omega
   go_enter Tryz.func115, Tryz.ntmps115;go_wp2;refine bodyPost_ret (v := .tuple #[qCl, .int .i64 12]) (by simp [results, Tryz.results115, go_sem, qCl]) rfl ⟨?_, .inr ⟨hno'.out, rfl⟩⟩;have := hle'.out;rw [← hW0'.out] at this;exact this
  ·by_cases hb2 : 40 < (dg (rnum r)).length
   ·have hb1 : 40 < ((dg (rnum r)).length : Int) := by omega
    go_enter Tryz.func115, Tryz.ntmps115;go_wp2;refine bodyPost_ret (v := .tuple #[qCl, .int .i64 12]) (by simp [results, Tryz.results115, go_sem, qCl]) rfl ⟨?_, .inr ⟨hno'.out, rfl⟩⟩;have := hle'.out;rw [← hW0'.out] at this;exact this
   ·have hb1 : 40 < ((dg r.den).length : Int) := by omega
    have hb3 : ¬ 40 < ((dg (rnum r)).length : Int) := by omega
    go_enter Tryz.func115, Tryz.ntmps115;go_wp2;refine bodyPost_ret (v := .tuple #[qCl, .int .i64 12]) (by simp [results, Tryz.results115, go_sem, qCl]) rfl ⟨?_, .inr ⟨hno'.out, rfl⟩⟩;have := hle'.out;rw [← hW0'.out] at this;exact this
 ·have hyes : Rsz r 40 := by unfold Rsz; omega
  have hb1 : ¬ 40 < ((dg (rnum r)).length : Int) := by omega
  have hb2 : ¬ 40 < ((dg r.den).length : Int) := by omega
  have q1 : (dg (rnum r)).length ≤ 40 := by omega
  have q2 : (dg r.den).length ≤ 40 := by omega
  clear hbig;have ⟨h', hL', hn', hd', hsr', hyes'⟩ := hyd6 h hL hn hd hsr hyes;clear hyes hsr hd hn hL h;go_enter Tryz.func115, Tryz.ntmps115;go_wp2_with (fail);obtain ⟨W0, hW0, hsz, hle, h0, h1⟩ := qA6 w (.cells #[.bool sr, .slice An (dg (rnum r)).length cn, .slice Ad (dg r.den).length cd] 200) (.cells #[.bool false, .slice none 0 0, .bool false, .slice none 0 0] 76);rw [hW0];clear hW0;obtain ⟨ca0, ca1, ca2, -⟩ := qAD h0;have hUp0 := hL'.out.le hle;have ⟨h0', h1', hle', hUp0'⟩ := hyd4 h0 h1 hle hUp0;clear hUp0 hle h1 h0;refine qFY (R := qAw (w.heap.size + 1)) 10 [some 15, some 16, some 17, some 18, some 19, some 20, some 21, some 22, some 23, none, some 3] [[], [0], [], [2], [1, 3], [], [5], [6], [4, 7], [8], []]
   [.eq (.pointer (some ⟨w.heap.size, 0, none⟩)), .eq (.bool sr), .eq (.pointer (some ⟨w.heap.size, 1, none⟩)), .eq (.slice An (dg (rnum r)).length cn), .any, .eq (.pointer (some ⟨w.heap.size, 2, none⟩)), .eq (.slice Ad (dg r.den).length cd), .any, .any, .any]
   (OutG L w (w.heap.size + 1) 76 r) (fun _ _ => False) (by kernel_rfl) (by kernel_rfl) (by kernel_rfl) (by kernel_rfl) (by kernel_rfl) ?_ ?_ (fun _ _ _ _ h => h.elim) ?_
  ·exact fun D x hD => ⟨fun h => absurd h (by rw [hD 4 (by decide)]; simp), fun h => absurd h (by rw [hD 7 (by decide)]; simp), fun h => absurd h (by rw [hD 8 (by decide)]; simp), fun _ => h1'.out, fun h => absurd h (by rw [hD 9 (by decide)]; simp), hle'.out.trans Le.drew⟩
  ·simp only [List.take_succ_cons, List.take_zero];refine sGc rfl ?_ (sGc rfl ?_ (sGc rfl ?_ (sGc rfl ?_ (sGc rfl ?_ (sGc rfl ?_ (sGc rfl ?_ (sGc rfl ?_ (sGc rfl ?_ (sGc rfl ?_ (qBo))))))))))
   ·intro D x W hD hdn hR hf hG Q hK _;have hRW := hR (by omega);simp only [fA] at hK ⊢;go_wp2;exact hK _ _ ((qAw _).refl _) rfl (hG.quiet (Le.refl _) (by decide) (by decide) (by decide) (by decide))
   ·intro D x W hD hdn hR hf hG Q hK _;have hRW := hR (by omega);obtain ⟨e0, -⟩ := hf;change _ = _ at e0;have cc := (Below.cell hRW (p := ⟨w.heap.size, 0, none⟩) (by show w.heap.size < w.heap.size + 1; omega)).trans ca0;simp only [fA, e0] at hK ⊢;go_wp2;exact hK _ _ ((qAw _).refl _) rfl (hG.quiet (Le.refl _) (by decide) (by decide) (by decide) (by decide))
   ·intro D x W hD hdn hR hf hG Q hK _;have hRW := hR (by omega);simp only [fA] at hK ⊢;go_wp2;exact hK _ _ ((qAw _).refl _) rfl (hG.quiet (Le.refl _) (by decide) (by decide) (by decide) (by decide))
   ·intro D x W hD hdn hR hf hG Q hK _;have hRW := hR (by omega);obtain ⟨e0, -⟩ := hf;change _ = _ at e0;have cc := (Below.cell hRW (p := ⟨w.heap.size, 1, none⟩) (by show w.heap.size < w.heap.size + 1; omega)).trans ca1;simp only [fA, e0] at hK ⊢;go_wp2;exact hK _ _ ((qAw _).refl _) rfl (hG.quiet (Le.refl _) (by decide) (by decide) (by decide) (by decide))
   ·intro D x W hD hdn hR hf hG Q hK _;obtain ⟨e0, e1, -⟩ := hf;change _ = _ at e0 e1;simp only [fA, e0, e1] at hK ⊢;have hLeW := hG.le;have ⟨hG', hR', hLeW', hdn'⟩ := hyd4 hG hR hLeW hdn;clear hdn hLeW hR hG;go_wp2_with (fail);go_at_call 165;refine (qFC L L2 sr (rnum r) _ W (hL'.out.le hLeW'.out) (hn'.out.le hLeW'.out) (by omega)).mono ?_;rintro e w' ⟨A8, c8, rfl, y1, y2⟩;have ⟨y1', y2'⟩ := hyd2 y1 y2;clear y2 y1;go_wp2;have e7 : ∀ j, j ≠ 4 → updB D 4 j = D j := fun j hj => by simp [updB, hj]
    have e8 : ∀ v j, j ≠ 4 → updV x 4 v j = x j := fun v j hj => by simp [updV, hj]
    refine hK _ _ (fun hz => y1'.out.mono hz) trivial ⟨?_, ?_, ?_, ?_, ?_, hLeW'.out.trans y1'.out⟩
    ·exact fun _ => ⟨A8, c8, by simp [updV, hsr'.out], y2'.out⟩
    ·rw [e7 7 (by decide), e8 _ 7 (by decide)]; exact fun hd => by obtain ⟨A, c, k1, k2⟩ := hG'.out.w7 hd; exact ⟨A, c, k1, k2.le y1'.out⟩
    ·rw [e7 8 (by decide), e8 _ 8 (by decide)]; exact fun hd => (hG'.out.w8 hd).le y1'.out
    ·rw [e7 9 (by decide)]; exact fun hd => (y1'.out.block _ (gsl (hG'.out.box hd))).trans (hG'.out.box hd)
    ·rw [e7 9 (by decide), e7 8 (by decide), e8 _ 8 (by decide)]
     exact fun hd => by
      obtain ⟨k0, A, c, B, d, k1, k2⟩ := hG'.out.fin hd;exact ⟨k0, A, c, B, d, k1, (y1'.out.block _ (gsl k2)).trans k2⟩
   ·intro D x W hD hdn hR hf hG Q hK _;have hRW := hR (by omega);simp only [fA] at hK ⊢;go_wp2;exact hK _ _ ((qAw _).refl _) rfl (hG.quiet (Le.refl _) (by decide) (by decide) (by decide) (by decide))
   ·intro D x W hD hdn hR hf hG Q hK _;have hRW := hR (by omega);obtain ⟨e0, -⟩ := hf;change _ = _ at e0;have cc := (Below.cell hRW (p := ⟨w.heap.size, 2, none⟩) (by show w.heap.size < w.heap.size + 1; omega)).trans ca2;simp only [fA, e0] at hK ⊢;go_wp2;exact hK _ _ ((qAw _).refl _) rfl (hG.quiet (Le.refl _) (by decide) (by decide) (by decide) (by decide))
   ·intro D x W hD hdn hR hf hG Q hK _;obtain ⟨e0, -⟩ := hf;change _ = _ at e0;simp only [fA, e0] at hK ⊢;have hLeW := hG.le;have ⟨hG', hR', hLeW', hdn'⟩ := hyd4 hG hR hLeW hdn;clear hdn hLeW hR hG;go_wp2_with (fail);go_at_call 165;refine (qFC L L2 false r.den _ W (hL'.out.le hLeW'.out) (hd'.out.le hLeW'.out) (by omega)).mono ?_;rintro e w' ⟨A8, c8, rfl, y1, y2⟩;have ⟨y1', y2'⟩ := hyd2 y1 y2;clear y2 y1;go_wp2;have e7 : ∀ j, j ≠ 7 → updB D 7 j = D j := fun j hj => by simp [updB, hj]
    have e8 : ∀ v j, j ≠ 7 → updV x 7 v j = x j := fun v j hj => by simp [updV, hj]
    refine hK _ _ (fun hz => y1'.out.mono hz) trivial ⟨?_, ?_, ?_, ?_, ?_, hLeW'.out.trans y1'.out⟩
    ·rw [e7 4 (by decide), e8 _ 4 (by decide)]; exact fun hd => by obtain ⟨A, c, k1, k2⟩ := hG'.out.w4 hd; exact ⟨A, c, k1, k2.le y1'.out⟩
    ·exact fun _ => ⟨A8, c8, by simp [updV], y2'.out⟩
    ·rw [e7 8 (by decide), e8 _ 8 (by decide)]; exact fun hd => (hG'.out.w8 hd).le y1'.out
    ·rw [e7 9 (by decide)]; exact fun hd => (y1'.out.block _ (gsl (hG'.out.box hd))).trans (hG'.out.box hd)
    ·rw [e7 9 (by decide), e7 8 (by decide), e8 _ 8 (by decide)]
     exact fun hd => by
      obtain ⟨k0, A, c, B, d, k1, k2⟩ := hG'.out.fin hd;exact ⟨k0, A, c, B, d, k1, (y1'.out.block _ (gsl k2)).trans k2⟩
   ·intro D x W hD hdn hR hf hG Q hK _;obtain ⟨A8, c8, k8, n8⟩ := hG.w4 (hdn 4 (by decide));obtain ⟨A9, c9, k9, n9⟩ := hG.w7 (hdn 7 (by decide));rw [hsr'.out] at k8;simp only [fA, k8, k9] at hK ⊢;have ⟨hG', hR', hdn', n8', n9', k8', k9'⟩ := hyd7 hG hR hdn n8 n9 k8 k9;clear k9 k8 n9 n8 hdn hR hG;go_wp2;have e7 : ∀ j, j ≠ 8 → updB D 8 j = D j := fun j hj => by simp [updB, hj]
    have e8 : ∀ v j, j ≠ 8 → updV x 8 v j = x j := fun v j hj => by simp [updV, hj]
    refine hK _ _ ((qAw _).refl _) trivial ⟨?_, ?_, ?_, ?_, ?_, hG'.out.le⟩
    ·rw [e7 4 (by decide), e8 _ 4 (by decide)]; exact hG'.out.w4
    ·rw [e7 7 (by decide), e8 _ 7 (by decide)]; exact hG'.out.w7
    ·exact fun _ => ⟨A8, c8, A9, c9, by simp [updV, hsr'.out], n8'.out, n9'.out⟩
    ·rw [e7 9 (by decide)]; exact hG'.out.box
    ·rw [e7 9 (by decide)];intro hd;have hd8 := (hG'.out.fin hd).1;rw [hd8] at hD
     cases hD
   ·intro D x W hD hdn hR hf hG Q hK _;obtain ⟨A8, c8, A9, c9, k8, n8, n9⟩ := hG.w8 (hdn 8 (by decide));rw [hsr'.out] at k8;have hbx := hG.box hD;obtain ⟨z0, z1, z2, z3⟩ := qA3 hbx;have ⟨g0, g1, g2, g3⟩ := frz4 hbx;have hle9 := fun u0 u1 u2 u3 => qET (u0 := u0) (u1 := u1) (u2 := u2) (u3 := u3) hG.le (show w.heap.size ≤ w.heap.size + 1 by omega);have hs4 := fun u0 u1 u2 u3 => qD3 (u0 := u0) (u1 := u1) (u2 := u2) (u3 := u3) hbx;simp only [fA, k8] at hK ⊢;have ⟨hG', hR', hdn', n8', n9', k8', hbx', hle9'⟩ := hyd8 hG hR hdn n8 n9 k8 hbx hle9;have hs4' := hyd1 hs4;clear hs4 hle9 hbx k8 n9 n8 hdn hR hG;go_wp2;have e7 : ∀ j, j ≠ 9 → updB D 9 j = D j := fun j hj => by simp [updB, hj]
    have e8 : ∀ v j, j ≠ 9 → updV x 9 v j = x j := fun v j hj => by simp [updV, hj]
    refine hK undef _ ?_ trivial ⟨?_, ?_, ?_, ?_, ?_, hle9'.out _ _ _ _⟩
    ·exact fun hz => ((((Below.refl _ _).setCell (p := ⟨w.heap.size + 1, 0, none⟩) (Nat.le_refl _) _).setCell (p := ⟨w.heap.size + 1, 1, none⟩) (Nat.le_refl _) _).setCell (p := ⟨w.heap.size + 1, 2, none⟩) (Nat.le_refl _) _).setCell (p := ⟨w.heap.size + 1, 3, none⟩) (Nat.le_refl _) _
    ·rw [e7 4 (by decide), e8 _ 4 (by decide)]; exact fun hd => by obtain ⟨A, c, k1, k2⟩ := hG'.out.w4 hd; exact ⟨A, c, k1, k2.box4 hbx'.out⟩
    ·rw [e7 7 (by decide), e8 _ 7 (by decide)]; exact fun hd => by obtain ⟨A, c, k1, k2⟩ := hG'.out.w7 hd; exact ⟨A, c, k1, k2.box4 hbx'.out⟩
    ·rw [e7 8 (by decide), e8 _ 8 (by decide)]; exact fun _ => ⟨A8, c8, A9, c9, by rw [hsr'.out]; exact k8'.out, n8'.out.box4 hbx'.out, n9'.out.box4 hbx'.out⟩
    ·exact fun h => by simp [updB] at h
    ·rw [e7 8 (by decide), e8 _ 8 (by decide)]; exact fun _ => ⟨hdn'.out 8 (by decide), A8, c8, A9, c9, by rw [hsr'.out]; exact k8'.out, by rw [hsr'.out]; exact hs4'.out _ _ _ _⟩
  ·intro D x W hD hR hf hG Q' hQ1 _;obtain ⟨A8, c8, A9, c9, k8, n8, n9⟩ := hG.w8 (hD 8 (by decide));obtain ⟨-, B8, d8, B9', d9, k8b, hbx⟩ := hG.fin (hD 9 (by decide));rw [k8] at k8b;injection k8b with k8b;injection k8b with k8b;simp only [List.cons.injEq, Value.slice.injEq, true_and, and_true] at k8b;obtain ⟨⟨rfl, rfl⟩, rfl, rfl⟩ := k8b;have hLeW := hG.le;have e0 := hf 0 (by decide);have e1 := hf 1 (by decide);have e2 := hf 2 (by decide);have e3 := hf 3 (by decide);have e5 := hf 5 (by decide);have e6 := hf 6 (by decide);change _ = _ at e0 e1 e2 e3 e5 e6;rw [hsr'.out] at k8 hbx;simp only [List.drop_succ_cons, List.drop_zero];rw [show List.range 10 = [0, 1, 2, 3, 4, 5, 6, 7, 8, 9] from rfl];simp only [fA, e0, e1, e2, e3, e5, e6, k8];generalize x 4 = x4 at *;generalize x 7 = x7 at *;obtain ⟨d0, d1, d2, d3⟩ := qA3 hbx;clear e0 e1 e2 e3 e5 e6 hf;have ⟨hG', hbx', hLeW', n8', n9', k8', hR', hD'⟩ := hyd8 hG hbx hLeW n8 n9 k8 hR hD;clear hD hR k8 n9 n8 hLeW hbx hG;go_wp2;refine hQ1 _ _ ?_;go_wp2;exact bodyPost_ret (v := .tuple #[.agg #[.bool sr, .slice A8 (dg (rnum r)).length c8, .bool false, .slice A9 (dg r.den).length c9], .int .i64 0]) (by simp [results, Tryz.results115, go_sem, d0, d1, d2, d3]) rfl ⟨hLeW'.out, .inl ⟨hyes'.out, _, rfl, A8, c8, A9, c9, by rw [hsr'.out], n8'.out, n9'.out⟩⟩
end Go.Proofs.YtabfaobakmjiaaaGreat
