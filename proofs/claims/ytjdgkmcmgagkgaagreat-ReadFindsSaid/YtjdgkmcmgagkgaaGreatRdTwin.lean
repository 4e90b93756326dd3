/- The reference's Twin: appends to an empty literal; a list of heads under way. The reference's Twin and Great; SameProgram. -/
import Derived.Test.YtjdgkmcmgagkgaaGreatRdSimpW
import Derived.Test.YtjdgkmcmgagkgaaGreatRdValid
import Derived.Test.YtjdgkmcmgagkgaaGreatRdStartR
import Derived.Test.YtjdgkmcmgagkgaaGreatMonoR
import Derived.BigRegion
namespace Go.Proofs.YtjdgkmcmgagkgaaGreat
set_option maxRecDepth 100000
set_option maxHeartbeats 1000000
open Go.RowKit
set_option linter.unusedVariables false
set_option linter.unusedSimpArgs false
theorem run_append_empty {P : Program} (w : World) (t ty e : TypeId) (i : TypeInfo) (ht : P.underlying t = some (.slice e)) (hi : P.info? e = some i) (b o : Nat) (A : Option Addr) (c : Nat) :
  (Builtin.append_ #[t, t] ty #[.slice (some ⟨b, o, none⟩) 0 0, .slice A 0 c]).run P w = .ok (.slice (some ⟨b, o, none⟩) 0 0) w := by
 cases A with
 | some a =>
  have h := run_append_room_cells (P := P) w t ty e i ht hi b o 0 0 a 0 c [] (by simp) (fun j u hu => by simp at hu) (by simp) (Nat.le_refl _) (fun j hj => by simp at hj) (fun j hj => by simp at hj)
  simpa [World.setCells] using h
 | none => simp [Builtin.append_, run_underlying ht, sizeOf, typeInfo, hi, Builtin.lenOf, Builtin.firstCells, storeCells]
theorem own_at0 (B n : Nat) : ∀ g, (Value.slice (some ⟨B, 0, none⟩) n 0).ownBlock = some g → B ≤ g := fun g hg => by
 have hg2 : B = g := by injection hg
 omega
theorem wpList_app0 {P : Program} (w : World) {ops : Array Oper} {rest : List Oper} {o : Oper} {a : Act} {Q : Exit → Act → World → Prop} (hgd : o.guard = none) (s x : Operand) (t : TypeId)
  (ho : o.op = .call { callee := .builtin .append, args := #[s, x], argTypes := #[t, t] }) (e : TypeId) (i : TypeInfo) (ht : P.underlying t = some (.slice e)) (hi : P.info? e = some i)
  (b off : Nat) (hs : a.eval s = .slice (some ⟨b, off, none⟩) 0 0) (A : Option Addr) (c : Nat) (hx : a.eval x = .slice A 0 c)
  (hK : wpList P ops Q rest (a.put o.dst (.slice (some ⟨b, off, none⟩) 0 0)) w) : wpList P ops Q (o :: rest) a w := by
 refine wpList_plain hgd fun K hK' => ?_
 have hrun := run_append_empty (P := P) w t o.type e i ht hi b off A c
 unfold Oper.wp
 simp [execOp, ho, resolve, invoke, builtin, hs, hx, hrun, Result.andThen]
 exact hK' _ _ hK
theorem wpList_appZ {P : Program} (w : World) {ops : Array Oper} {rest : List Oper} {o : Oper} {a : Act} {Q : Exit → Act → World → Prop} (hgd : o.guard = none) (s x : Operand) (t : TypeId)
  (ho : o.op = .call { callee := .builtin .append, args := #[s, x], argTypes := #[t, t] }) (e : TypeId) (hE : Elem1 P t e (.int .i64 0) 8)
  (B : Nat) (hs : a.eval s = .slice (some ⟨B, 0, none⟩) 0 0) (sv : Value) (ys : List Int) (hx : a.eval x = sv) (hsrc : Ints w sv ys) (hl : ys.length ≤ 1000000000)
  (hB : B < w.heap.size) (hK : ∀ v' w', Below w.heap.size w w' → Ints w' v' ys → (∀ g, v'.ownBlock = some g → B ≤ g) → wpList P ops Q rest (a.put o.dst v') w') : wpList P ops Q (o :: rest) a w := by
 by_cases h0 : 0 < ys.length
 ·exact wpList_appE w hgd s x t ho e hE ⟨B, 0, none⟩ hs sv ys hx hsrc h0 hl fun v' w' h1 h2 => hK v' w' h1 h2.1 fun g hg => by have := h2.2 g hg; omega
 ·obtain rfl : ys = [] := List.eq_nil_of_length_eq_zero (by omega)
  obtain ⟨A, c, rfl, -⟩ := hsrc
  obtain ⟨ht, hi, -⟩ := hE
  obtain ⟨i, hi0, -⟩ := info_parts hi
  exact wpList_app0 w hgd s x t ho e i ht hi0 B 0 hs A c hx (hK _ _ (Below.refl _ _) ⟨_, 0, rfl, Nat.le_refl _, Nat.zero_le _, fun e => (by cases e), fun h => absurd h (Nat.lt_irrefl 0)⟩ (own_at0 B 0))
theorem wpList_appSVO {α : Type} {k : Nat} {enc : α → List Value} {P : Program} (w : World) {ops : Array Oper} {rest : List Oper} {o : Oper} {a : Act} {Q : Exit → Act → World → Prop} (hgd : o.guard = none) (s x : Operand) (t : TypeId)
  (ho : o.op = .call { callee := .builtin .append, args := #[s, x], argTypes := #[t, t] }) (e : TypeId) (z : Value) (bytes : Nat) (ht : P.underlying t = some (.slice e)) (hi : (P.info? e).map (fun i => (i.zero, i.size, i.bytes)) = some (some z, k, bytes)) (hzs : z.cells.size = k) (hk0 : 0 < k) (hb : bytes ≤ 1000)
  (hk : ∀ x, (enc x).length = k) (hone : ∀ x, ∀ u ∈ enc x, u.oneCell' = true) (B : Nat) (hs : a.eval s = .slice (some ⟨B, 0, none⟩) 0 0) (sv : Value) (L : List α) (hx : a.eval x = sv) (hsrc : SV k enc w sv L) (hl : L.length ≤ 1000000)
  (hB : B < w.heap.size) (hK : ∀ v' w', Below w.heap.size w w' → SV k enc w' v' L → (∀ g, v'.ownBlock = some g → B ≤ g) → (0 < L.length → w'.ownsRow w.heap.size e k v' L.length (L.flatMap enc)) → wpList P ops Q rest (a.put o.dst v') w') : wpList P ops Q (o :: rest) a w := by
 obtain ⟨i, hi0, hz, hsz, hby⟩ := info_parts hi
 obtain ⟨A, c, rfl, h1, h2, h3, h4⟩ := hsrc
 by_cases h0 : 0 < L.length
 ·obtain ⟨b, off, rfl, hblt, hc⟩ := h4 h0
  have hfl := flat_length hk L
  refine wpList_append_grows w hgd s x t ho e i z k bytes ht hi0 hz hsz hby hzs hk0 (some ⟨B, 0, none⟩) 0 0 [] hs (fun e => (by cases e)) (by simp) (fun _ _ _ _ hu => (by simp at hu)) ⟨b, off, none⟩ L.length c (L.flatMap enc) hx hfl (fun j u hu => ?_) (fun u hu => ?_) (by omega) (by unfold maxLen; omega) (by have h9 : (0 + L.length) * bytes ≤ 1000000 * 1000 := Nat.mul_le_mul (by omega) hb; omega) fun v' w' q1 q2 => ?_
  ·have hj : j < L.length * k := by rw [← hfl]; exact (List.getElem?_eq_some_iff.1 hu).1
   have hd : j / k < L.length := (Nat.div_lt_iff_lt_mul hk0).2 hj
   have hm := Nat.mod_lt j hk0
   have hdm : j / k * k + j % k = j := Nat.div_add_mod' j k
   have hg := flat_get hk L (j / k) hd (j % k) ((enc L[j / k])[j % k]'(by rw [hk]; exact hm)) (List.getElem?_eq_getElem (by rw [hk]; exact hm))
   rw [hdm, hu] at hg
   injection hg with hg
   have hadd : (⟨b, off, none⟩ : Addr).add j = ⟨b, off + j, none⟩ := by unfold Addr.add; split <;> simp_all
   have h9 := hc (j / k) hd (j % k) _ (List.getElem?_eq_getElem (by rw [hk]; exact hm))
   rw [hadd, show off + j = off + j / k * k + j % k by omega, h9, hg]
  ·rw [List.mem_flatMap] at hu
   obtain ⟨y, -, hu⟩ := hu
   exact hone y u hu
  ·refine hK v' w' ((Below.refl _ _).grown q2 (Nat.le_refl _) fun q hq => by cases hq) (SV.of_own (base := w.heap.size) (e := e) hk (by simpa using q1)) (fun g hg => by have := (q1.lt g hg).1; omega) fun _ => by simpa using q1
 ·obtain rfl : L = [] := List.eq_nil_of_length_eq_zero (by omega)
  exact wpList_app0 w hgd s x t ho e i ht hi0 B 0 hs A c hx (hK _ _ (Below.refl _ _) ⟨_, 0, rfl, Nat.le_refl _, Nat.zero_le _, fun e => (by cases e), fun h => absurd h (Nat.lt_irrefl 0)⟩ (own_at0 B 0) fun h => absurd h (Nat.lt_irrefl 0))
theorem wpList_appSV {α : Type} {k : Nat} {enc : α → List Value} {P : Program} (w : World) {ops : Array Oper} {rest : List Oper} {o : Oper} {a : Act} {Q : Exit → Act → World → Prop} (hgd : o.guard = none) (s x : Operand) (t : TypeId)
  (ho : o.op = .call { callee := .builtin .append, args := #[s, x], argTypes := #[t, t] }) (e : TypeId) (z : Value) (bytes : Nat) (ht : P.underlying t = some (.slice e)) (hi : (P.info? e).map (fun i => (i.zero, i.size, i.bytes)) = some (some z, k, bytes)) (hzs : z.cells.size = k) (hk0 : 0 < k) (hb : bytes ≤ 1000)
  (hk : ∀ x, (enc x).length = k) (hone : ∀ x, ∀ u ∈ enc x, u.oneCell' = true) (B : Nat) (hs : a.eval s = .slice (some ⟨B, 0, none⟩) 0 0) (sv : Value) (L : List α) (hx : a.eval x = sv) (hsrc : SV k enc w sv L) (hl : L.length ≤ 1000000)
  (hB : B < w.heap.size) (hK : ∀ v' w', Below w.heap.size w w' → SV k enc w' v' L → (∀ g, v'.ownBlock = some g → B ≤ g) → wpList P ops Q rest (a.put o.dst v') w') : wpList P ops Q (o :: rest) a w :=
 wpList_appSVO w hgd s x t ho e z bytes ht hi hzs hk0 hb hk hone B hs sv L hx hsrc hl hB fun v' w' h1 h2 h3 _ => hK v' w' h1 h2 h3
def IntsB (n : Nat) (w : World) (v : Value) (L : List Int) : Prop := Ints w v L ∧ ∀ g, v.ownBlock = some g → n ≤ g
theorem IntsB.below {n : Nat} {w W : World} {v : Value} {L : List Int} (h : IntsB n w v L) (hb : Below w.heap.size w W) : IntsB n W v L := ⟨h.1.below hb, h.2⟩
theorem IntsB.put {n : Nat} {w : World} {v : Value} {L : List Int} (h : IntsB n w v L) {X k : Nat} (hX : X < n) (u : Value) : IntsB n (w.setCell ⟨X, k, none⟩ u) v L := by
 obtain ⟨⟨A, c, rfl, h1, h2, h3, h4⟩, h5⟩ := h
 refine ⟨⟨A, c, rfl, h1, h2, h3, fun h0 => ?_⟩, h5⟩
 obtain ⟨b, off, rfl, hb, hc⟩ := h4 h0
 have hne : b ≠ X := by have := h5 b rfl; omega
 exact ⟨b, off, rfl, by simpa [World.setCell] using hb, fun j hj => (set_apart hne w k (off + j) u).trans (hc j hj)⟩
theorem SV.put {α : Type} {kk : Nat} {enc : α → List Value} {n : Nat} {w : World} {v : Value} {L : List α} (h : SV kk enc w v L) (h5 : ∀ g, v.ownBlock = some g → n ≤ g) {X k : Nat} (hX : X < n) (u : Value) : SV kk enc (w.setCell ⟨X, k, none⟩ u) v L := by
 obtain ⟨A, c, rfl, h1, h2, h3, h4⟩ := h
 refine ⟨A, c, rfl, h1, h2, h3, fun h0 => ?_⟩
 obtain ⟨b, off, rfl, hb, hc⟩ := h4 h0
 have hne : b ≠ X := by have := h5 b rfl; omega
 exact ⟨b, off, rfl, by simpa [World.setCell] using hb, fun j hj i u2 hu => (set_apart hne w k _ u).trans (hc j hj i u2 hu)⟩
def pairL (vs : List (Value × Value)) : List Value := vs.flatMap fun p => [p.1, p.2]
theorem pairL_length (vs : List (Value × Value)) : (pairL vs).length = vs.length * 2 := flat_length (enc := fun p : Value × Value => [p.1, p.2]) (k := 2) (fun _ => rfl) vs
theorem pairL_snoc (vs : List (Value × Value)) (p : Value × Value) : pairL (vs ++ [p]) = pairL vs ++ [p.1, p.2] := by unfold pairL; simp
theorem pairL_get {vs : List (Value × Value)} {j : Nat} (h : j < vs.length) : (pairL vs)[j * 2]? = some vs[j].1 ∧ (pairL vs)[j * 2 + 1]? = some vs[j].2 :=
 ⟨flat_get (enc := fun p : Value × Value => [p.1, p.2]) (k := 2) (fun _ => rfl) vs j h 0 _ rfl, flat_get (enc := fun p : Value × Value => [p.1, p.2]) (k := 2) (fun _ => rfl) vs j h 1 _ rfl⟩
def GrH (W : World) (base : Nat) (vo : Value) (hs : List Hd) : Prop := ∃ vs : List (Value × Value), vs.length = hs.length ∧ W.ownsRow base 58 2 vo hs.length (pairL vs) ∧ RowAll IsSl W vo ∧ ∀ i (h1 : i < vs.length) (h2 : i < hs.length), IntsB base W vs[i].1 hs[i].ros ∧ IntsB base W vs[i].2 hs[i].rub
theorem GrH.nil (W : World) (base : Nat) : GrH W base (.slice none 0 0) [] := ⟨[], rfl, World.ownsRow_nil _ _ _ _, RowAll.nil _ _, fun i h => absurd h (Nat.not_lt_zero i)⟩
theorem GrH.le {W W' : World} {base : Nat} {vo : Value} {hs : List Hd} (h : GrH W base vo hs) (hb : Below W.heap.size W W') : GrH W' base vo hs := by
 obtain ⟨vs, h1, h2, h3, h4⟩ := h
 exact ⟨vs, h1, own_below h2 hb, h3.same fun g hg => hb.block g (h2.lt g hg).2, fun i a b => ⟨(h4 i a b).1.below hb, (h4 i a b).2.below hb⟩⟩
theorem GrH.form {W : World} {base : Nat} {vo : Value} {hs : List Hd} (h : GrH W base vo hs) : ∃ A c, vo = .slice A hs.length c := by
 obtain ⟨vs, h1, h2, -⟩ := h
 rcases h2.2 with ⟨rfl, e⟩ | ⟨g, cap, cur, rfl, _⟩
 ·exact ⟨none, 0, by rw [e]⟩
 ·exact ⟨_, cap, rfl⟩
theorem GrH.heads {W : World} {base : Nat} {vo : Value} {hs : List Hd} (h : GrH W base vo hs) : HeadsL W vo hs := by
 obtain ⟨vs, h1, h2, h3, h4⟩ := h
 have h0 := h2
 rcases h2.2 with ⟨rfl, hx⟩ | ⟨g, cap, cur, rfl, hbg, hg, hnc, hcm, hcs, htake⟩
 ·obtain rfl : hs = [] := List.eq_nil_of_length_eq_zero hx
  exact ⟨none, 0, rfl, Nat.le_refl _, Nat.zero_le _, fun _ => rfl, fun h => absurd h (Nat.lt_irrefl 0)⟩
 ·refine ⟨some ⟨g, 0, none⟩, cap, rfl, hnc, hcm, fun h => (by cases h), fun _ => ⟨g, 0, rfl, (gsl hg), fun j hj => ⟨(vs[j]'(by omega)).1, (vs[j]'(by omega)).2, ?_, ?_, (h4 j (by omega) hj).1.1, (h4 j (by omega) hj).2.1⟩⟩⟩
  ·rw [Nat.zero_add, h0.cellAt (j * 2) (by omega)]
   exact (pairL_get (by omega)).1
  ·rw [Nat.zero_add, h0.cellAt (j * 2 + 1) (by omega)]
   exact (pairL_get (by omega)).2
theorem headInfo : (Tryz.prog.info? 58).map (fun i => (i.zero, i.size, i.bytes)) = some (some (.agg #[.slice none 0 0, .slice none 0 0]), 2, 48) := by kernel_rfl
theorem readInfo : (Tryz.prog.info? 77).map (fun i => (i.zero, i.size, i.bytes)) = some (some (.agg #[.int .i64 0, .int .i64 0, .int .i64 0, .int .i64 0]), 4, 32) := by kernel_rfl
theorem wpList_appH (w : World) {ops : Array Oper} {rest : List Oper} {o : Oper} {a : Act} {Q : Exit → Act → World → Prop} (hgd : o.guard = none) (s x : Operand)
  (ho : o.op = .call { callee := .builtin .append, args := #[s, x], argTypes := #[22, 22] })
  (base : Nat) (v : Value) (hs : List Hd) (hs0 : a.eval s = v) (hown : GrH w base v hs)
  (B : Nat) (v0 v1 : Value) (hd : Hd) (hx : a.eval x = .slice (some ⟨B, 0, none⟩) 1 1) (hc : w.heap[B]? = some (.cells #[v0, v1] 58)) (i0 : IntsB base w v0 hd.ros) (i1 : IntsB base w v1 hd.rub) (hlen : hs.length ≤ 1000000) (hbase : base ≤ w.heap.size)
  (h : ∀ v' w', GrH w' base v' (hs ++ [hd]) → Below base w w' → wpList Tryz.prog ops Q rest (a.put o.dst v') w') : wpList Tryz.prog ops Q (o :: rest) a w := by
 obtain ⟨mi, hmi, hz0, hz1, hzb⟩ := info_parts headInfo
 obtain ⟨vs, h1, h2, h3, h4⟩ := hown
 have sl0 : IsSl v0 := by obtain ⟨A, c, rfl, -⟩ := i0.1; exact ⟨_, _, _, rfl⟩
 have sl1 : IsSl v1 := by obtain ⟨A, c, rfl, -⟩ := i1.1; exact ⟨_, _, _, rfl⟩
 obtain ⟨y0, y1⟩ := pc2 hc
 refine wpList_append_ownC IsSl w hgd s x 22 ho base 58 mi _ 2 48 Tryz.underlying22 hmi hz0 hz1 hzb rfl (by decide) v hs.length (pairL vs) hs0 h2 ⟨B, 0, none⟩ 1 1 [v0, v1] hx rfl (fun j u hu => ?_) (fun u hu => ?_) (by unfold maxLen; omega) (by omega) hbase (by decide) (fun u hu => ?_) (fun j hj => ?_) h3 ?_
 ·have hj : j < 2 := (List.getElem?_eq_some_iff.1 hu).1
  have hadd : (⟨B, 0, none⟩ : Addr).add j = ⟨B, j, none⟩ := by unfold Addr.add; split <;> simp_all
  rw [hadd]
  have hj2 : j = 0 ∨ j = 1 := by omega
  rcases hj2 with rfl | rfl
  ·rw [y0]; simpa using hu
  ·rw [y1]; simpa using hu
 ·obtain ⟨_, _, _, rfl⟩ := sl0
  obtain ⟨_, _, _, rfl⟩ := sl1
  simp at hu
  rcases hu with rfl | rfl <;> rfl
 ·simp at hu
  rcases hu with rfl | rfl
  ·exact sl0
  ·exact sl1
 ·have hj2 : j = 0 ∨ j = 1 := by omega
  rcases hj2 with rfl | rfl <;> exact ⟨none, 0, 0, rfl⟩
 ·intro v' w' g1 g2 g3 g4 g5
  refine h v' w' ⟨vs ++ [(v0, v1)], by simp [h1], by rw [show (hs ++ [hd]).length = hs.length + 1 by simp, pairL_snoc]; exact g1, g4, fun i a b => ?_⟩ (Below.grown (Below.refl base w) g2 hbase (fun k e => (h2.lt k e).1))
  by_cases hi : i < vs.length
  ·rw [List.getElem_append_left hi, List.getElem_append_left (by omega)]
   exact ⟨⟨(h4 i hi (by omega)).1.1.row h2 h3 g2, (h4 i hi (by omega)).1.2⟩, ⟨(h4 i hi (by omega)).2.1.row h2 h3 g2, (h4 i hi (by omega)).2.2⟩⟩
  ·have hi2 : i = vs.length := by simp at a; omega
   subst hi2
   have e1 : (vs ++ [(v0, v1)])[vs.length]'a = (v0, v1) := by simp
   have e2 : (hs ++ [hd])[vs.length]'b = hd := by rw [List.getElem_append_right (by omega)]; simp [h1]
   rw [e1, e2]
   exact ⟨⟨i0.1.row h2 h3 g2, i0.2⟩, ⟨i1.1.row h2 h3 g2, i1.2⟩⟩
theorem IntsB.on {n : Nat} {w V : World} {v : Value} {L : List Int} (h : IntsB n w v L) (hV : ∀ b, n ≤ b → b < w.heap.size → V.heap[b]? = w.heap[b]?) (hs : w.heap.size ≤ V.heap.size) : IntsB n V v L := by
 obtain ⟨⟨A, c, rfl, h1, h2, h3, h4⟩, h5⟩ := h
 refine ⟨⟨A, c, rfl, h1, h2, h3, fun h0 => ?_⟩, h5⟩
 obtain ⟨b, off, rfl, hb, hc⟩ := h4 h0
 exact ⟨b, off, rfl, Nat.lt_of_lt_of_le hb hs, fun j hj => (World.cell?_of_block (hV b (h5 b rfl) hb)).trans (hc j hj)⟩
theorem GrH.on {W V : World} {base : Nat} {vo : Value} {hs : List Hd} (h : GrH W base vo hs) (hV : ∀ b, base ≤ b → b < W.heap.size → V.heap[b]? = W.heap[b]?) (hz : W.heap.size ≤ V.heap.size) : GrH V base vo hs := by
 obtain ⟨vs, h1, h2, h3, h4⟩ := h
 refine ⟨vs, h1, ⟨h2.1, ?_⟩, h3.same fun g hg => hV g (h2.lt g hg).1 (h2.lt g hg).2, fun i a b => ⟨(h4 i a b).1.on hV hz, (h4 i a b).2.on hV hz⟩⟩
 rcases h2.2 with e | ⟨g, cap, cur, e, hbg, hg, rest⟩
 ·exact .inl e
 ·exact .inr ⟨g, cap, cur, e, hbg, (hV g hbg (gsl hg)).trans hg, rest⟩
def TwinOwn (n0 : Nat) (w' : World) (v' : Value) (p : Pic) : Prop := ∃ vh vr m, v' = .agg #[vh, .int .i64 p.tl, .int .i64 p.th, .int .i64 p.al, .int .i64 p.ah, vr] ∧ n0 ≤ m ∧ m ≤ w'.heap.size ∧
 (∀ V : World, (∀ b, b < m → V.heap[b]? = w'.heap[b]?) → w'.heap.size ≤ V.heap.size → HeadsL V vh p.hs) ∧ (0 < p.rds.length → w'.ownsRow m 77 4 vr p.rds.length (p.rds.flatMap rdEnc))
theorem GrH.put {W : World} {base : Nat} {vo : Value} {hs : List Hd} (h : GrH W base vo hs) {X k : Nat} (hX : X < base) (u : Value) : GrH (W.setCell ⟨X, k, none⟩ u) base vo hs := by
 obtain ⟨vs, h1, h2, h3, h4⟩ := h
 exact ⟨vs, h1, own_apart h2 hX u, h3.same fun g hg => Below.heap_setCell W ⟨X, k, none⟩ u g (by have := (h2.lt g hg).1; show g ≠ X; omega), fun i a b => ⟨(h4 i a b).1.put hX u, (h4 i a b).2.put hX u⟩⟩
end Go.Proofs.YtjdgkmcmgagkgaaGreat
namespace Go.Proofs.YtjdgkmcmgagkgaaGreat
set_option maxRecDepth 100000
set_option maxHeartbeats 1000000
open Go.RowKit
set_option linter.unusedVariables false
set_option linter.unusedSimpArgs false
def MPred.intsB (n : Nat) (L : List Int) : MPred := ⟨fun v W => IntsB n W v L, fun _ _ _ h hp => hp.below h⟩
def MPred.empB (N : Nat) : MPred := ⟨fun v W => ∃ B, v = .slice (some ⟨B, 0, none⟩) 0 0 ∧ N ≤ B ∧ B < W.heap.size, fun _ _ _ h ⟨B, e, a, b⟩ => ⟨B, e, a, Nat.lt_of_lt_of_le b (Below.size h)⟩⟩
def HdV (n : Nat) (W : World) (v : Value) (h : Hd) : Prop := ∃ v0 v1, v = .agg #[v0, v1] ∧ IntsB n W v0 h.ros ∧ IntsB n W v1 h.rub
def MPred.hd (n : Nat) (h : Hd) : MPred := ⟨fun v W => HdV n W v h, fun _ _ _ hb ⟨v0, v1, e, a, b⟩ => ⟨v0, v1, e, a.below hb, b.below hb⟩⟩
def HdB (n : Nat) (W : World) (v : Value) (h : Hd) : Prop := ∃ X v0 v1, v = .slice (some ⟨X, 0, none⟩) 1 1 ∧ W.heap[X]? = some (.cells #[v0, v1] 58) ∧ IntsB n W v0 h.ros ∧ IntsB n W v1 h.rub
def MPred.hdB (n : Nat) (h : Hd) : MPred := ⟨fun v W => HdB n W v h, fun _ _ _ hb ⟨X, v0, v1, e, k, a, b⟩ => ⟨X, v0, v1, e, blk hb k, a.below hb, b.below hb⟩⟩
theorem pf_r9_TwinO (v : Value) (p : Pic) (w : World) (hp : IsPic w v p) (h6 : p.hs.length ≤ 1000) (h70 : p.rds.length ≤ 1000) (hl : ∀ h ∈ p.hs, h.ros.length ≤ 1000 ∧ h.rub.length ≤ 1000) :
  Calls Tryz.prog 8 #[v] w fun e w' => ∃ v', e = .returned v' ∧ Below w.heap.size w w' ∧ IsPic w' v' p ∧ TwinOwn w.heap.size w' v' p := by
 obtain ⟨vh, vr, rfl, hh, hr⟩ := hp
 obtain ⟨HA, hc, rfl, -⟩ := hh.slice
 obtain ⟨RA, rc, rfl, -⟩ := hr.slice
 obtain ⟨W0, hW0, hb0, k0⟩ := newb w (.cells #[.slice HA p.hs.length hc, .int .i64 p.tl, .int .i64 p.th, .int .i64 p.al, .int .i64 p.ah, .slice RA p.rds.length rc] 25)
 obtain ⟨W1, hW1, hb1, k1⟩ := newb W0 (.cells #[.slice none 0 0, .int .i64 0, .int .i64 0, .int .i64 0, .int .i64 0, .slice none 0 0] 25)
 have k01 := blk hb1 k0
 have hbw1 := bel_set hb0 hb1
 obtain ⟨c0, c1, c2, c3, c4, c5⟩ := pc6 k01
 have z0 : w.heap.size < W0.heap.size := gsl k0
 have z1 : W0.heap.size < W1.heap.size := gsl k1
 have hI0 : Below W1.heap.size W1 W1 ∧ GrH W1 W1.heap.size (.slice none 0 0) (p.hs.take 0) := ⟨Below.refl _ _, GrH.nil _ _⟩
 have ⟨hh', hr', hb0', hb1', k0', k1', k01', hbw1'⟩ := hyd8 hh hr hb0 hb1 k0 k1 k01 hbw1
 have hI0' := hyd1 hI0
 clear hI0 hbw1 k01 k1 k0 hb1 hb0 hr hh
 go_enter Tryz.func8, Tryz.ntmps8
 go_wp2_with (fail)
 clear hW0 hW1 c0 c1 c2 c3 c4 c5
 generalize hP1 : W0.heap.size = P1 at *
 have hP1' := hyd1 hP1
 clear hP1
 go_loopw [4, 3] (fun jx vo wr => ∃ j : Nat, j ≤ p.hs.length ∧ jx = .int .i64 (j : Int) ∧ Hid (Below W1.heap.size W1 wr ∧ GrH wr W1.heap.size vo (p.hs.take j))) (fun jx _ _ => p.hs.length - (intOf jx).toNat)
 case atStart => exact ⟨0, Nat.zero_le _, rfl, hI0'⟩
 case round =>
  obtain ⟨j, hj, rfl, hI⟩ := hrel
  obtain ⟨hbw, hg⟩ := hI.out
  have kp := blk hbw k01'.out
  obtain ⟨c0, c1, c2, c3, c4, c5⟩ := pc6 kp
  obtain ⟨Ag, cg, hgf⟩ := hg.form
  obtain ⟨tl, htl⟩ : ∃ k, (p.hs.take j).length = k := ⟨_, rfl⟩
  rw [htl] at hgf
  subst hgf
  have htl2 : tl ≤ p.hs.length := by rw [← htl]; exact List.length_take_le' _ _
  by_cases hlt : j < p.hs.length
  ·have hbwj := bel_set hbw1'.out hbw
   obtain ⟨b, off, hc2, vr0, vb0, heq, hbl, g0, g1, i0, i1⟩ := (hh'.out.le hbwj).at hlt
   injection heq with e1 e2 e3
   subst e1 e3
   clear e2
   obtain ⟨A0, cc0, rfl, -⟩ := id i0
   obtain ⟨A1, cc1, rfl, -⟩ := id i1
   obtain ⟨q1, q2⟩ := hl _ (List.getElem_mem hlt)
   have htk : p.hs.take (j + 1) = p.hs.take j ++ [p.hs[j]] := List.take_succ_eq_append_getElem hlt
   obtain ⟨hd, hhd⟩ : ∃ h, p.hs[j] = h := ⟨_, rfl⟩
   rw [hhd] at g0 g1 i0 i1 htk q1 q2
   obtain ⟨n0, hn0⟩ : ∃ n, hd.ros.length = n := ⟨_, rfl⟩
   obtain ⟨n1, hn1⟩ : ∃ n, hd.rub.length = n := ⟨_, rfl⟩
   rw [hn0] at g0 i0
   rw [hn1] at g1 i1
   have j3 : (j : Int) < (p.hs.length : Int) := by omega
   have j4 : (0 : Int) ≤ (j : Int) := by omega
   have hzb := hbw.size
   have ⟨hI', hbw', hg', kp', i0', i1', hhd', htk'⟩ := hyd8 hI hbw hg kp i0 i1 hhd htk
   have ⟨hn0', hn1', hbwj', htl'⟩ := hyd4 hn0 hn1 hbwj htl
   clear htl hbwj hn1 hn0 htk hhd i1 i0 kp hg hbw hI
   go_wp2_with (fail)
--@ARM5
   refine wp_region_monoM (R := leRel) 19 [some 12, some 13, some 14, some 15, some 16, some 17, some 18, some 19, some 20, some 21, some 22, some 23, some 24, some 25, some 26, some 27, some 28, some 29, some 30, some 31, some 3] [[], [], [], [2], [], [3, 4], [5], [6], [1, 7], [], [], [10], [], [11, 12], [13], [14], [9, 15], [8, 16], [17], [0, 18], [19]]
    [.eq (.slice Ag tl cg), MPred.empB wr.heap.size, .eq (.pointer (some ⟨w.heap.size, 0, none⟩)), .eq (.slice (some ⟨b, off, none⟩) p.hs.length hc), .eq (.int .i64 (j : Int)), .eq (.pointer (some ⟨b, off + j * 2, none⟩)), .eq (.pointer (some ⟨b, off + j * 2, none⟩)), .eq (.slice A0 n0 cc0), MPred.intsB W1.heap.size hd.ros, MPred.empB wr.heap.size, .eq (.pointer (some ⟨w.heap.size, 0, none⟩)), .eq (.slice (some ⟨b, off, none⟩) p.hs.length hc), .eq (.int .i64 (j : Int)), .eq (.pointer (some ⟨b, off + j * 2, none⟩)), .eq (.pointer (some ⟨b, off + j * 2 + 1, none⟩)), .eq (.slice A1 n1 cc1), MPred.intsB W1.heap.size hd.rub, MPred.hd W1.heap.size hd, MPred.hdB W1.heap.size hd] (fun _ _ => False) (by kernel_rfl) (by kernel_rfl) (by kernel_rfl) (by kernel_rfl) (by kernel_rfl) ?_ (fun _ _ _ _ h => h.elim) ?_
   ·simp only [List.take_succ_cons, List.take_zero]
    refine sMc rfl ?_ (sMc rfl ?_ (sMc rfl ?_ (sMc rfl ?_ (sMc rfl ?_ (sMc rfl ?_ (sMc rfl ?_ (sMc rfl ?_ (sMc rfl ?_ (sMc rfl ?_ (sMc rfl ?_ (sMc rfl ?_ (sMc rfl ?_ (sMc rfl ?_ (sMc rfl ?_ (sMc rfl ?_ (sMc rfl ?_ (sMc rfl ?_ (sMc rfl ?_ (stepsG_nil)))))))))))))))))))
    ·intro xv W hR hf Q hK hP
     simp only [fA] at hK ⊢
     go_wp2
     exact hK _ _ lrR rfl
    ·intro xv W hR hf Q hK hP
     simp only [fA] at hK ⊢
     have zW := Below.size hR
     have ⟨hP', hR'⟩ := hyd2 hP hR
     clear hR hP
     go_wp2
     exact hK _ _ (alc1 _ _) ⟨_, rfl, zW, by simp⟩
    ·intro xv W hR hf Q hK hP
     simp only [fA] at hK ⊢
     go_wp2
     exact hK _ _ lrR rfl
    ·intro xv W hR hf Q hK hP
     obtain ⟨e0, -⟩ := hf
     change _ = _ at e0
     have cc := (pc6 (blk hR kp'.out)).1
     simp only [fA, e0] at hK ⊢
     go_wp2
     exact hK _ _ lrR rfl
    ·intro xv W hR hf Q hK hP
     simp only [fA] at hK ⊢
     go_wp2
     exact hK _ _ lrR rfl
    ·intro xv W hR hf Q hK hP
     obtain ⟨e0, e1, -⟩ := hf
     change _ = _ at e0 e1
     simp only [fA, e0, e1] at hK ⊢
     go_wp2
     exact hK _ _ lrR rfl
    ·intro xv W hR hf Q hK hP
     obtain ⟨e0, -⟩ := hf
     change _ = _ at e0
     simp only [fA, e0] at hK ⊢
     go_wp2
     exact hK _ _ lrR rfl
    ·intro xv W hR hf Q hK hP
     obtain ⟨e0, -⟩ := hf
     change _ = _ at e0
     have cc := (Below.cell hR (p := ⟨b, off + j * 2, none⟩) hbl).trans g0
     simp only [fA, e0] at hK ⊢
     go_wp2
     exact hK _ _ lrR rfl
    ·intro xv W hR hf Q hK hP
     obtain ⟨e0, e1, -⟩ := hf
     change _ = _ at e1
     replace e0 : ∃ B, (xv 1) = .slice (some ⟨B, 0, none⟩) 0 0 ∧ wr.heap.size ≤ B ∧ B < W.heap.size := e0
     obtain ⟨B, e0, e0b, e0c⟩ := e0
     simp only [fA, e1, e0] at hK ⊢
     refine wpList_appZ W rfl (.tmp 13) (.tmp 19) 26 rfl 3 elemInt B rfl (.slice A0 n0 cc0) hd.ros rfl (i0'.out.below hR) (by have := hn0'.out; omega) e0c fun v' w' y1 y2 y3 => ?_
     exact hK _ _ y1 ⟨y2, fun g hg => Nat.le_trans (Nat.le_trans hzb e0b) (y3 g hg)⟩
    ·intro xv W hR hf Q hK hP
     simp only [fA] at hK ⊢
     have zW := Below.size hR
     have ⟨hP', hR'⟩ := hyd2 hP hR
     clear hR hP
     go_wp2
     exact hK _ _ (alc1 _ _) ⟨_, rfl, zW, by simp⟩
    ·intro xv W hR hf Q hK hP
     simp only [fA] at hK ⊢
     go_wp2
     exact hK _ _ lrR rfl
    ·intro xv W hR hf Q hK hP
     obtain ⟨e0, -⟩ := hf
     change _ = _ at e0
     have cc := (pc6 (blk hR kp'.out)).1
     simp only [fA, e0] at hK ⊢
     go_wp2
     exact hK _ _ lrR rfl
    ·intro xv W hR hf Q hK hP
     simp only [fA] at hK ⊢
     go_wp2
     exact hK _ _ lrR rfl
    ·intro xv W hR hf Q hK hP
     obtain ⟨e0, e1, -⟩ := hf
     change _ = _ at e0 e1
     simp only [fA, e0, e1] at hK ⊢
     go_wp2
     exact hK _ _ lrR rfl
    ·intro xv W hR hf Q hK hP
     obtain ⟨e0, -⟩ := hf
     change _ = _ at e0
     simp only [fA, e0] at hK ⊢
     go_wp2
     exact hK _ _ lrR rfl
    ·intro xv W hR hf Q hK hP
     obtain ⟨e0, -⟩ := hf
     change _ = _ at e0
     have cc := (Below.cell hR (p := ⟨b, off + j * 2 + 1, none⟩) hbl).trans g1
     simp only [fA, e0] at hK ⊢
     go_wp2
     exact hK _ _ lrR rfl
    ·intro xv W hR hf Q hK hP
     obtain ⟨e0, e1, -⟩ := hf
     change _ = _ at e1
     replace e0 : ∃ B, (xv 9) = .slice (some ⟨B, 0, none⟩) 0 0 ∧ wr.heap.size ≤ B ∧ B < W.heap.size := e0
     obtain ⟨B, e0, e0b, e0c⟩ := e0
     simp only [fA, e1, e0] at hK ⊢
     refine wpList_appZ W rfl (.tmp 21) (.tmp 27) 26 rfl 3 elemInt B rfl (.slice A1 n1 cc1) hd.rub rfl (i1'.out.below hR) (by have := hn1'.out; omega) e0c fun v' w' y1 y2 y3 => ?_
     exact hK _ _ y1 ⟨y2, fun g hg => Nat.le_trans (Nat.le_trans hzb e0b) (y3 g hg)⟩
    ·intro xv W hR hf Q hK hP
     obtain ⟨e0, e1, -⟩ := hf
     replace e0 : IntsB W1.heap.size W (xv 8) hd.ros := e0
     replace e1 : IntsB W1.heap.size W (xv 16) hd.rub := e1
     obtain ⟨a0, c0, q0, -⟩ := id e0.1
     obtain ⟨a1, c1, q1, -⟩ := id e1.1
     rw [q0] at e0
     rw [q1] at e1
     simp only [fA, q0, q1] at hK ⊢
     clear q0 q1
     have ⟨e0', e1', hR'⟩ := hyd3 e0 e1 hR
     clear hR e1 e0
     go_wp2
     exact hK _ _ lrR ⟨_, _, rfl, e0'.out, e1'.out⟩
    ·intro xv W hR hf Q hK hP
     obtain ⟨e0, -⟩ := hf
     replace e0 : HdV W1.heap.size W (xv 17) hd := e0
     obtain ⟨v0, v1, q, a, bb⟩ := e0
     obtain ⟨a0, c0, q0, -⟩ := id a.1
     obtain ⟨a1, c1, q1, -⟩ := id bb.1
     subst q0 q1
     simp only [fA, q] at hK ⊢
     clear q
     have ⟨a', bb', hR'⟩ := hyd3 a bb hR
     clear hR bb a
     go_wp2
     exact hK _ _ (alc1 _ _) ⟨_, _, _, rfl, alc_at _ _, a'.out.below (alc1 _ _), bb'.out.below (alc1 _ _)⟩
   ·intro xv W3 hR hf Q' hQ1 _
    have e0 : xv 0 = .slice Ag tl cg := hf 0 (by decide)
    obtain ⟨X, v0, v1, e18, kX, a0, a1⟩ : HdB W1.heap.size W3 (xv 18) hd := hf 18 (by decide)
    simp only [List.drop_succ_cons, List.drop_zero]
    rw [show List.range 19 = [0, 1, 2, 3, 4, 5, 6, 7, 8, 9, 10, 11, 12, 13, 14, 15, 16, 17, 18] from rfl]
    simp only [fA, e0, e18]
    clear e0 e18 hf
    have hg3 := hg'.out.le hR
    have zW := Below.size hR
    have hbw3 := bel_set hbw'.out hR
    clear c0 c1 c2 c3 c4 c5 g0 g1
    have htl3 := htl'.out
    have ⟨hg3', hR', kX', a0', a1', hbw3'⟩ := hyd6 hg3 hR kX a0 a1 hbw3
    clear hbw3 a1 a0 kX hR hg3
    go_wp2_with (first | (at_builtin; refine wpList_appH _ rfl _ _ rfl W1.heap.size (.slice Ag tl cg) (p.hs.take j) rfl hg3'.out X v0 v1 hd rfl kX'.out a0'.out a1'.out (by omega) (by omega) ?_) | fail)
    intro v3 w3 h1 h2
    have hI3 : Below W1.heap.size W1 w3 ∧ GrH w3 W1.heap.size v3 (p.hs.take (j + 1)) := ⟨hbw3'.out.trans h2, by rw [htk'.out]; exact h1⟩
    obtain ⟨A3, c3, hv3⟩ := h1.form
    obtain ⟨n3, hn3⟩ : ∃ k, (p.hs.take j ++ [hd]).length = k := ⟨_, rfl⟩
    rw [hn3] at hv3
    subst hv3
    clear hn3 htl3
    have ⟨h1', h2', hI3'⟩ := hyd3 h1 h2 hI3
    clear hI3 h2 h1
    go_wp2
    refine hQ1 _ _ ?_
    clear hQ1
    go_wp2
    go_roundw
    case rel => exact ⟨j + 1, by omega, by go_num, hI3'⟩
    case measure => simp [intOf]; omega
--@END5
  ·obtain rfl : j = p.hs.length := by omega
   rw [List.take_length] at hg htl
   have hbwj := bel_set hbw1'.out hbw
   subst htl
   have f0 := pfrz kp 0
   have hbWr := hbw
   have ⟨hI', hbw', hg', kp', hbwj'⟩ := hyd5 hI hbw hg kp hbwj
   clear hbwj kp hg hbw hI
   go_upto_region 7 with (fail)
   have hbW := hbWr
   obtain ⟨WA, hWA, hbA, kA, hgA, k1A, hzA⟩ : ∃ V, wr.setCell ⟨w.heap.size, 0, none⟩ (.slice Ag p.hs.length cg) = V ∧ Below w.heap.size w V ∧ V.heap[w.heap.size]? = some (.cells #[.slice Ag p.hs.length cg, .int .i64 p.tl, .int .i64 p.th, .int .i64 p.al, .int .i64 p.ah, .slice RA p.rds.length rc] 25) ∧ GrH V W1.heap.size (.slice Ag p.hs.length cg) p.hs ∧ V.heap[P1]? = some (.cells #[.slice none 0 0, .int .i64 0, .int .i64 0, .int .i64 0, .int .i64 0, .slice none 0 0] 25) ∧ W1.heap.size ≤ V.heap.size :=
    ⟨_, rfl, Below.setCell hbwj'.out (p := ⟨w.heap.size, 0, none⟩) (Nat.le_refl _) _, by simp only [World.setCell, Array.getElem?_modify, kp'.out]; simp, hg'.out.put (by omega) _, (Below.heap_setCell wr ⟨w.heap.size, 0, none⟩ _ P1 (by show P1 ≠ w.heap.size; omega)).trans (blk hbWr k1'.out), by have := hbWr.size; simpa [World.setCell] using this⟩
   rw [hWA]
   clear hWA c0 c1 c2 c3 c4 c5 f0 hbWr hbW
   obtain ⟨WB, hWB, hbB, kB⟩ := newb WA (.cells #[] 77)
   have hzB := gsl kB
   obtain ⟨c0, c1, c2, c3, c4, c5⟩ := pc6 (blk hbB kA)
   have hsrc := hr'.out.le (bel_set hbA hbB)
   have ⟨hbA', kA', hgA', k1A', hbB', kB', hsrc'⟩ := hyd7 hbA kA hgA k1A hbB kB hsrc
   clear hsrc kB hbB k1A hgA kA hbA
   go_wp2_with (first | (at_builtin; refine wpList_appSVO _ rfl _ _ 23 rfl 77 _ 32 (by kernel_rfl) readInfo rfl (by decide) (by decide) (fun _ => rfl) (fun x u hu => ?hone) WA.heap.size rfl (.slice RA p.rds.length rc) p.rds rfl hsrc'.out (by omega) hzB ?_) | fail)
   case hone => simp [rdEnc] at hu; rcases hu with rfl | rfl | rfl | rfl <;> rfl
   intro vr w3 y1 y2 y3 y4
   clear hWB c0 c1 c2 c3 c4 c5
   obtain ⟨RA3, rc3, hv3, -⟩ := y2.slice
   subst hv3
   have kA3 := blk y1 (blk hbB'.out kA'.out)
   have f5 := pfrz kA3 5
   obtain ⟨c0, c1, c2, c3, c4, c5⟩ := pc6 kA3
   obtain ⟨WC, hWC, hbC, kC, hgC, k1C, hrC, hoC, hzC, hwC⟩ : ∃ V, w3.setCell ⟨w.heap.size, 5, none⟩ (.slice RA3 p.rds.length rc3) = V ∧ Below w.heap.size w V ∧ V.heap[w.heap.size]? = some (.cells #[.slice Ag p.hs.length cg, .int .i64 p.tl, .int .i64 p.th, .int .i64 p.al, .int .i64 p.ah, .slice RA3 p.rds.length rc3] 25) ∧ GrH V W1.heap.size (.slice Ag p.hs.length cg) p.hs ∧ V.heap[P1]? = some (.cells #[.slice none 0 0, .int .i64 0, .int .i64 0, .int .i64 0, .int .i64 0, .slice none 0 0] 25) ∧ SV 4 rdEnc V (.slice RA3 p.rds.length rc3) p.rds ∧ (∀ b, b ≠ w.heap.size → V.heap[b]? = w3.heap[b]?) ∧ V.heap.size = w3.heap.size ∧ (0 < p.rds.length → V.ownsRow WB.heap.size 77 4 (.slice RA3 p.rds.length rc3) p.rds.length (p.rds.flatMap rdEnc)) :=
    ⟨_, rfl, Below.setCell (bel_set (bel_set hbA'.out hbB'.out) y1) (p := ⟨w.heap.size, 5, none⟩) (Nat.le_refl _) _, by simp only [World.setCell, Array.getElem?_modify, kA3]; simp, ((hgA'.out.le hbB'.out).le y1).put (by omega) _, (Below.heap_setCell w3 ⟨w.heap.size, 5, none⟩ _ P1 (by show P1 ≠ w.heap.size; omega)).trans (blk y1 (blk hbB'.out k1A'.out)), SV.put (n := WA.heap.size) y2 y3 (by omega) _, fun b hb => Below.heap_setCell w3 ⟨w.heap.size, 5, none⟩ _ b hb, by simp [World.setCell], fun h => own_apart (y4 h) (by omega) _⟩
   have y1s := y1.size
   have y1b := y1.block
   have ⟨y1', y2', kA3', y1b', y4', hoC', hzC', hwC'⟩ := hyd8 y1 y2 kA3 y1b y4 hoC hzC hwC
   clear hwC hzC hoC y4 y1b kA3 y2 y1
   go_upto_region 8 with (fail)
   clear hWC c0 c1 c2 c3 c4 c5 f5
   obtain ⟨c0, c1, c2, c3, c4, c5⟩ := pc6 kC
   obtain ⟨e0, e1, e2, e3, e4, e5⟩ := pc6 k1C
   have fg0 := pfrz k1C 0
   have fg1 := pfrz k1C 1
   have fg2 := pfrz k1C 2
   have fg3 := pfrz k1C 3
   have fg4 := pfrz k1C 4
   have fg5 := pfrz k1C 5
   obtain ⟨W9, hW9, hb9, k9, hg9, hr9, ho9, hz9, hw9⟩ : ∃ V, ((((((WC.setCell ⟨P1, 0, none⟩ (.slice Ag p.hs.length cg)).setCell ⟨P1, 1, none⟩ (.int .i64 p.tl)).setCell ⟨P1, 2, none⟩ (.int .i64 p.th)).setCell ⟨P1, 3, none⟩ (.int .i64 p.al)).setCell ⟨P1, 4, none⟩ (.int .i64 p.ah)).setCell ⟨P1, 5, none⟩ (.slice RA3 p.rds.length rc3)) = V ∧ Below w.heap.size w V ∧ V.heap[P1]? = some (.cells #[.slice Ag p.hs.length cg, .int .i64 p.tl, .int .i64 p.th, .int .i64 p.al, .int .i64 p.ah, .slice RA3 p.rds.length rc3] 25) ∧ GrH V W1.heap.size (.slice Ag p.hs.length cg) p.hs ∧ SV 4 rdEnc V (.slice RA3 p.rds.length rc3) p.rds ∧ (∀ b, b ≠ P1 → V.heap[b]? = WC.heap[b]?) ∧ V.heap.size = WC.heap.size ∧ (0 < p.rds.length → V.ownsRow WB.heap.size 77 4 (.slice RA3 p.rds.length rc3) p.rds.length (p.rds.flatMap rdEnc)) :=
    ⟨_, rfl, pset6b hbC (by omega) _ _ _ _ _ _, pset6 k1C _ _ _ _ _ _, (((((hgC.put z1 _).put z1 _).put z1 _).put z1 _).put z1 _).put z1 _, SV.put (n := WA.heap.size) (SV.put (n := WA.heap.size) (SV.put (n := WA.heap.size) (SV.put (n := WA.heap.size) (SV.put (n := WA.heap.size) (SV.put (n := WA.heap.size) hrC y3 (by omega) _) y3 (by omega) _) y3 (by omega) _) y3 (by omega) _) y3 (by omega) _) y3 (by omega) _,
     fun b hb => (Below.heap_setCell _ ⟨P1, 5, none⟩ _ b hb).trans ((Below.heap_setCell _ ⟨P1, 4, none⟩ _ b hb).trans ((Below.heap_setCell _ ⟨P1, 3, none⟩ _ b hb).trans ((Below.heap_setCell _ ⟨P1, 2, none⟩ _ b hb).trans ((Below.heap_setCell _ ⟨P1, 1, none⟩ _ b hb).trans (Below.heap_setCell _ ⟨P1, 0, none⟩ _ b hb))))), by simp [World.setCell],
     fun h => own_apart (own_apart (own_apart (own_apart (own_apart (own_apart (hwC'.out h) (by omega) _) (by omega) _) (by omega) _) (by omega) _) (by omega) _) (by omega) _⟩
   have htw : TwinOwn w.heap.size W9 (.agg #[.slice Ag p.hs.length cg, .int .i64 p.tl, .int .i64 p.th, .int .i64 p.al, .int .i64 p.ah, .slice RA3 p.rds.length rc3]) p := by
    have e1 := hbB'.out.size
    have e2 := hzC'.out
    have e3 := hbA'.out.size
    refine ⟨_, _, WB.heap.size, rfl, by omega, by omega, fun V hv hvz => (hgA'.out.on (V := V) (fun b h1 h2 => ?_) (by omega)).heads, hw9⟩
    exact (hv b (by omega)).trans ((ho9 b (by omega)).trans ((hoC'.out b (by omega)).trans ((y1b'.out b (by omega)).trans (hbB'.out.block b h2))))
   obtain ⟨d0, d1, d2, d3, d4, d5⟩ := pc6 k9
   have ⟨hbC', kC', hgC', k1C', hrC', hb9', k9', hg9'⟩ := hyd8 hbC kC hgC k1C hrC hb9 k9 hg9
   have ⟨hr9', ho9', hz9', hw9', htw'⟩ := hyd5 hr9 ho9 hz9 hw9 htw
   clear htw hw9 hz9 ho9 hr9 hg9 k9 hb9 hrC k1C hgC kC hbC
   go_wp2
   exact bodyPost_ret (v := .agg #[.slice Ag p.hs.length cg, .int .i64 p.tl, .int .i64 p.th, .int .i64 p.al, .int .i64 p.ah, .slice RA3 p.rds.length rc3]) (by simp [results, Tryz.results8, go_sem, d0, d1, d2, d3, d4, d5]) rfl ⟨_, rfl, hb9'.out, ⟨_, _, rfl, hg9'.out.heads, hr9'.out⟩, htw'.out⟩
theorem pf_r9_Twin (v : Value) (p : Pic) (w : World) (hp : IsPic w v p) (h6 : p.hs.length ≤ 1000) (h70 : p.rds.length ≤ 1000) (hl : ∀ h ∈ p.hs, h.ros.length ≤ 1000 ∧ h.rub.length ≤ 1000) :
  Calls Tryz.prog 8 #[v] w fun e w' => ∃ v', e = .returned v' ∧ Below w.heap.size w w' ∧ IsPic w' v' p :=
 (pf_r9_TwinO v p w hp h6 h70 hl).mono fun e w' ⟨v', h1, h2, h3, _⟩ => ⟨v', h1, h2, h3⟩
end Go.Proofs.YtjdgkmcmgagkgaaGreat
