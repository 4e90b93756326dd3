/- The reference's Twin: appends to an empty literal; a list of heads under way. The reference's Twin and Great; SameProgram. -/
import Derived.Test.YtphdalgaemefoaaGreatRdSimpW
import Derived.Test.YtphdalgaemefoaaGreatRdValid
import Derived.Test.YtphdalgaemefoaaGreatRdStartR
import Derived.Test.YtphdalgaemefoaaGreatMonoR
import Derived.BigRegion
namespace Go.Proofs.YtphdalgaemefoaaGreat
set_option maxRecDepth 100000
open Go.RowKit
set_option linter.unusedVariables false
set_option linter.unusedSimpArgs false
theorem run_append_empty {P : Program} (w : World) (t ty e : TypeId) (i : TypeInfo) (ht : P.underlying t = some (.slice e)) (hi : P.info? e = some i) (b o : Nat) (A : Option Addr) (c : Nat) :
  (Builtin.append_ #[t, t] ty #[.slice (some ⟨b, o, none⟩) 0 0, .slice A 0 c]).run P w = .ok (.slice (some ⟨b, o, none⟩) 0 0) w := by
 cases A with
 | some a =>
  have h := run_append_room_cells (P := P) w t ty e i ht hi b o 0 0 a 0 c [] (by simp) (fun j u hu => by simp at hu) (by simp) (Nat.le_refl _) (fun j hj => by simp at hj) (fun j hj => by simp at hj)
  simpa [World.setCells] using h
 | none => simp [Builtin.append_, run_underlying ht, sizeOf, typeInfo, hi, Builtin.lenOf, Builtin.firstCells, storeCells]
theorem own_at0 (B n : Nat) : ∀ g, (Value.slice (some ⟨B, 0, none⟩) n 0).ownBlock = some g → B ≤ g := fun g hg => by
 have hg2 : B = g := by injection hg
 omega
theorem wpList_app0 {P : Program} (w : World) {ops : Array Oper} {rest : List Oper} {o : Oper} {a : Act} {Q : Exit → Act → World → Prop} (hgd : o.guard = none) (s x : Operand) (t : TypeId)
  (ho : o.op = .call { callee := .builtin .append, args := #[s, x], argTypes := #[t, t] }) (e : TypeId) (i : TypeInfo) (ht : P.underlying t = some (.slice e)) (hi : P.info? e = some i)
  (b off : Nat) (hs : a.eval s = .slice (some ⟨b, off, none⟩) 0 0) (A : Option Addr) (c : Nat) (hx : a.eval x = .slice A 0 c)
  (hK : wpList P ops Q rest (a.put o.dst (.slice (some ⟨b, off, none⟩) 0 0)) w) : wpList P ops Q (o :: rest) a w := by
 refine wpList_plain hgd fun K hK' => ?_
 have hrun := run_append_empty (P := P) w t o.type e i ht hi b off A c
 unfold Oper.wp
 simp [execOp, ho, resolve, invoke, builtin, hs, hx, hrun, Result.andThen]
 exact hK' _ _ hK
theorem wpList_appZ {P : Program} (w : World) {ops : Array Oper} {rest : List Oper} {o : Oper} {a : Act} {Q : Exit → Act → World → Prop} (hgd : o.guard = none) (s x : Operand) (t : TypeId)
  (ho : o.op = .call { callee := .builtin .append, args := #[s, x], argTypes := #[t, t] }) (e : TypeId) (hE : Elem1 P t e (.int .i64 0) 8)
  (B : Nat) (hs : a.eval s = .slice (some ⟨B, 0, none⟩) 0 0) (sv : Value) (ys : List Int) (hx : a.eval x = sv) (hsrc : Ints w sv ys) (hl : ys.length ≤ 1000000000)
  (hB : B < w.heap.size) (hK : ∀ v' w', Below w.heap.size w w' → Ints w' v' ys → (∀ g, v'.ownBlock = some g → B ≤ g) → wpList P ops Q rest (a.put o.dst v') w') : wpList P ops Q (o :: rest) a w := by
 by_cases h0 : 0 < ys.length
 ·exact wpList_appE w hgd s x t ho e hE ⟨B, 0, none⟩ hs sv ys hx hsrc h0 hl fun v' w' h1 h2 => hK v' w' h1 h2.1 fun g hg => by have := h2.2 g hg; omega
 ·obtain rfl : ys = [] := List.eq_nil_of_length_eq_zero (by omega)
  obtain ⟨A, c, rfl, -⟩ := hsrc
  obtain ⟨ht, hi, -⟩ := hE
  obtain ⟨i, hi0, -⟩ := info_parts hi
  exact wpList_app0 w hgd s x t ho e i ht hi0 B 0 hs A c hx (hK _ _ (Below.refl _ _) ⟨_, 0, rfl, Nat.le_refl _, Nat.zero_le _, fun e => (by cases e), fun h => absurd h (Nat.lt_irrefl 0)⟩ (own_at0 B 0))
theorem wpList_appSVO {α : Type} {k : Nat} {enc : α → List Value} {P : Program} (w : World) {ops : Array Oper} {rest : List Oper} {o : Oper} {a : Act} {Q : Exit → Act → World → Prop} (hgd : o.guard = none) (s x : Operand) (t : TypeId)
  (ho : o.op = .call { callee := .builtin .append, args := #[s, x], argTypes := #[t, t] }) (e : TypeId) (z : Value) (bytes : Nat) (ht : P.underlying t = some (.slice e)) (hi : (P.info? e).map (fun i => (i.zero, i.size, i.bytes)) = some (some z, k, bytes)) (hzs : z.cells.size = k) (hk0 : 0 < k) (hb : bytes ≤ 1000)
  (hk : ∀ x, (enc x).length = k) (hone : ∀ x, ∀ u ∈ enc x, u.oneCell' = true) (B : Nat) (hs : a.eval s = .slice (some ⟨B, 0, none⟩) 0 0) (sv : Value) (L : List α) (hx : a.eval x = sv) (hsrc : SV k enc w sv L) (hl : L.length ≤ 1000000)
  (hB : B < w.heap.size) (hK : ∀ v' w', Below w.heap.size w w' → SV k enc w' v' L → (∀ g, v'.ownBlock = some g → B ≤ g) → (0 < L.length → w'.ownsRow w.heap.size e k v' L.length (L.flatMap enc)) → wpList P ops Q rest (a.put o.dst v') w') : wpList P ops Q (o :: rest) a w := by
 obtain ⟨i, hi0, hz, hsz, hby⟩ := info_parts hi
 obtain ⟨A, c, rfl, h1, h2, h3, h4⟩ := hsrc
 by_cases h0 : 0 < L.length
 ·obtain ⟨b, off, rfl, hblt, hc⟩ := h4 h0
  have hfl := flat_length hk L
  refine wpList_append_grows w hgd s x t ho e i z k bytes ht hi0 hz hsz hby hzs hk0 (some ⟨B, 0, none⟩) 0 0 [] hs (fun e => (by cases e)) (by simp) (fun _ _ _ _ hu => (by simp at hu)) ⟨b, off, none⟩ L.length c (L.flatMap enc) hx hfl (fun j u hu => ?_) (fun u hu => ?_) (by omega) (by unfold maxLen; omega) (by have h9 : (0 + L.length) * bytes ≤ 1000000 * 1000 := Nat.mul_le_mul (by omega) hb; omega) fun v' w' q1 q2 => ?_
  ·have hj : j < L.length * k := by rw [← hfl]; exact (List.getElem?_eq_some_iff.1 hu).1
   have hd : j / k < L.length := (Nat.div_lt_iff_lt_mul hk0).2 hj
   have hm := Nat.mod_lt j hk0
   have hdm : j / k * k + j % k = j := Nat.div_add_mod' j k
   have hg := flat_get hk L (j / k) hd (j % k) ((enc L[j / k])[j % k]'(by rw [hk]; exact hm)) (List.getElem?_eq_getElem (by rw [hk]; exact hm))
   rw [hdm, hu] at hg
   injection hg with hg
   have hadd : (⟨b, off, none⟩ : Addr).add j = ⟨b, off + j, none⟩ := by unfold Addr.add; split <;> simp_all
   have h9 := hc (j / k) hd (j % k) _ (List.getElem?_eq_getElem (by rw [hk]; exact hm))
   rw [hadd, show off + j = off + j / k * k + j % k by omega, h9, hg]
  ·rw [List.mem_flatMap] at hu
   obtain ⟨y, -, hu⟩ := hu
   exact hone y u hu
  ·refine hK v' w' ((Below.refl _ _).grown q2 (Nat.le_refl _) fun q hq => by cases hq) (SV.of_own (base := w.heap.size) (e := e) hk (by simpa using q1)) (fun g hg => by have := (q1.lt g hg).1; omega) fun _ => by simpa using q1
 ·obtain rfl : L = [] := List.eq_nil_of_length_eq_zero (by omega)
  exact wpList_app0 w hgd s x t ho e i ht hi0 B 0 hs A c hx (hK _ _ (Below.refl _ _) ⟨_, 0, rfl, Nat.le_refl _, Nat.zero_le _, fun e => (by cases e), fun h => absurd h (Nat.lt_irrefl 0)⟩ (own_at0 B 0) fun h => absurd h (Nat.lt_irrefl 0))
theorem wpList_appSV {α : Type} {k : Nat} {enc : α → List Value} {P : Program} (w : World) {ops : Array Oper} {rest : List Oper} {o : Oper} {a : Act} {Q : Exit → Act → World → Prop} (hgd : o.guard = none) (s x : Operand) (t : TypeId)
  (ho : o.op = .call { callee := .builtin .append, args := #[s, x], argTypes := #[t, t] }) (e : TypeId) (z : Value) (bytes : Nat) (ht : P.underlying t = some (.slice e)) (hi : (P.info? e).map (fun i => (i.zero, i.size, i.bytes)) = some (some z, k, bytes)) (hzs : z.cells.size = k) (hk0 : 0 < k) (hb : bytes ≤ 1000)
  (hk : ∀ x, (enc x).length = k) (hone : ∀ x, ∀ u ∈ enc x, u.oneCell' = true) (B : Nat) (hs : a.eval s = .slice (some ⟨B, 0, none⟩) 0 0) (sv : Value) (L : List α) (hx : a.eval x = sv) (hsrc : SV k enc w sv L) (hl : L.length ≤ 1000000)
  (hB : B < w.heap.size) (hK : ∀ v' w', Below w.heap.size w w' → SV k enc w' v' L → (∀ g, v'.ownBlock = some g → B ≤ g) → wpList P ops Q rest (a.put o.dst v') w') : wpList P ops Q (o :: rest) a w :=
 wpList_appSVO w hgd s x t ho e z bytes ht hi hzs hk0 hb hk hone B hs sv L hx hsrc hl hB fun v' w' h1 h2 h3 _ => hK v' w' h1 h2 h3
def IntsB (n : Nat) (w : World) (v : Value) (L : List Int) : Prop := Ints w v L ∧ ∀ g, v.ownBlock = some g → n ≤ g
theorem IntsB.below {n : Nat} {w W : World} {v : Value} {L : List Int} (h : IntsB n w v L) (hb : Below w.heap.size w W) : IntsB n W v L := ⟨h.1.below hb, h.2⟩
theorem IntsB.put {n : Nat} {w : World} {v : Value} {L : List Int} (h : IntsB n w v L) {X k : Nat} (hX : X < n) (u : Value) : IntsB n (w.setCell ⟨X, k, none⟩ u) v L := by
 obtain ⟨⟨A, c, rfl, h1, h2, h3, h4⟩, h5⟩ := h
 refine ⟨⟨A, c, rfl, h1, h2, h3, fun h0 => ?_⟩, h5⟩
 obtain ⟨b, off, rfl, hb, hc⟩ := h4 h0
 have hne : b ≠ X := by have := h5 b rfl; omega
 exact ⟨b, off, rfl, by simpa [World.setCell] using hb, fun j hj => (set_apart hne w k (off + j) u).trans (hc j hj)⟩
theorem SV.put {α : Type} {kk : Nat} {enc : α → List Value} {n : Nat} {w : World} {v : Value} {L : List α} (h : SV kk enc w v L) (h5 : ∀ g, v.ownBlock = some g → n ≤ g) {X k : Nat} (hX : X < n) (u : Value) : SV kk enc (w.setCell ⟨X, k, none⟩ u) v L := by
 obtain ⟨A, c, rfl, h1, h2, h3, h4⟩ := h
 refine ⟨A, c, rfl, h1, h2, h3, fun h0 => ?_⟩
 obtain ⟨b, off, rfl, hb, hc⟩ := h4 h0
 have hne : b ≠ X := by have := h5 b rfl; omega
 exact ⟨b, off, rfl, by simpa [World.setCell] using hb, fun j hj i u2 hu => (set_apart hne w k _ u).trans (hc j hj i u2 hu)⟩
def pairL (vs : List (Value × Value)) : List Value := vs.flatMap fun p => [p.1, p.2]
theorem pairL_length (vs : List (Value × Value)) : (pairL vs).length = vs.length * 2 := flat_length (enc := fun p : Value × Value => [p.1, p.2]) (k := 2) (fun _ => rfl) vs
theorem pairL_snoc (vs : List (Value × Value)) (p : Value × Value) : pairL (vs ++ [p]) = pairL vs ++ [p.1, p.2] := by unfold pairL; simp
theorem pairL_get {vs : List (Value × Value)} {j : Nat} (h : j < vs.length) : (pairL vs)[j * 2]? = some vs[j].1 ∧ (pairL vs)[j * 2 + 1]? = some vs[j].2 :=
 ⟨flat_get (enc := fun p : Value × Value => [p.1, p.2]) (k := 2) (fun _ => rfl) vs j h 0 _ rfl, flat_get (enc := fun p : Value × Value => [p.1, p.2]) (k := 2) (fun _ => rfl) vs j h 1 _ rfl⟩
def GrH (W : World) (base : Nat) (vo : Value) (hs : List Hd) : Prop := ∃ vs : List (Value × Value), vs.length = hs.length ∧ W.ownsRow base 44 2 vo hs.length (pairL vs) ∧ RowAll IsSl W vo ∧ ∀ i (h1 : i < vs.length) (h2 : i < hs.length), IntsB base W vs[i].1 hs[i].ros ∧ IntsB base W vs[i].2 hs[i].rub
theorem GrH.nil (W : World) (base : Nat) : GrH W base (.slice none 0 0) [] := ⟨[], rfl, World.ownsRow_nil _ _ _ _, RowAll.nil _ _, fun i h => absurd h (Nat.not_lt_zero i)⟩
theorem GrH.le {W W' : World} {base : Nat} {vo : Value} {hs : List Hd} (h : GrH W base vo hs) (hb : Below W.heap.size W W') : GrH W' base vo hs := by
 obtain ⟨vs, h1, h2, h3, h4⟩ := h
 exact ⟨vs, h1, own_below h2 hb, h3.same fun g hg => hb.block g (h2.lt g hg).2, fun i a b => ⟨(h4 i a b).1.below hb, (h4 i a b).2.below hb⟩⟩
theorem GrH.form {W : World} {base : Nat} {vo : Value} {hs : List Hd} (h : GrH W base vo hs) : ∃ A c, vo = .slice A hs.length c := by
 obtain ⟨vs, h1, h2, -⟩ := h
 rcases h2.2 with ⟨rfl, e⟩ | ⟨g, cap, cur, rfl, _⟩
 ·exact ⟨none, 0, by rw [e]⟩
 ·exact ⟨_, cap, rfl⟩
theorem GrH.heads {W : World} {base : Nat} {vo : Value} {hs : List Hd} (h : GrH W base vo hs) : HeadsL W vo hs := by
 obtain ⟨vs, h1, h2, h3, h4⟩ := h
 have h0 := h2
 rcases h2.2 with ⟨rfl, hx⟩ | ⟨g, cap, cur, rfl, hbg, hg, hnc, hcm, hcs, htake⟩
 ·obtain rfl : hs = [] := List.eq_nil_of_length_eq_zero hx
  exact ⟨none, 0, rfl, Nat.le_refl _, Nat.zero_le _, fun _ => rfl, fun h => absurd h (Nat.lt_irrefl 0)⟩
 ·refine ⟨some ⟨g, 0, none⟩, cap, rfl, hnc, hcm, fun h => (by cases h), fun _ => ⟨g, 0, rfl, (gsl hg), fun j hj => ⟨(vs[j]'(by omega)).1, (vs[j]'(by omega)).2, ?_, ?_, (h4 j (by omega) hj).1.1, (h4 j (by omega) hj).2.1⟩⟩⟩
  ·rw [Nat.zero_add, h0.cellAt (j * 2) (by omega)]
   exact (pairL_get (by omega)).1
  ·rw [Nat.zero_add, h0.cellAt (j * 2 + 1) (by omega)]
   exact (pairL_get (by omega)).2
theorem headInfo : (Tryz.prog.info? 44).map (fun i => (i.zero, i.size, i.bytes)) = some (some (.agg #[.slice none 0 0, .slice none 0 0]), 2, 48) := by kernel_rfl
theorem readInfo : (Tryz.prog.info? 54).map (fun i => (i.zero, i.size, i.bytes)) = some (some (.agg #[.int .i64 0, .int .i64 0, .int .i64 0, .int .i64 0]), 4, 32) := by kernel_rfl
theorem wpList_appH (w : World) {ops : Array Oper} {rest : List Oper} {o : Oper} {a : Act} {Q : Exit → Act → World → Prop} (hgd : o.guard = none) (s x : Operand)
  (ho : o.op = .call { callee := .builtin .append, args := #[s, x], argTypes := #[22, 22] })
  (base : Nat) (v : Value) (hs : List Hd) (hs0 : a.eval s = v) (hown : GrH w base v hs)
  (B : Nat) (v0 v1 : Value) (hd : Hd) (hx : a.eval x = .slice (some ⟨B, 0, none⟩) 1 1) (hc : w.heap[B]? = some (.cells #[v0, v1] 44)) (i0 : IntsB base w v0 hd.ros) (i1 : IntsB base w v1 hd.rub) (hlen : hs.length ≤ 1000000) (hbase : base ≤ w.heap.size)
  (h : ∀ v' w', GrH w' base v' (hs ++ [hd]) → Below base w w' → wpList Tryz.prog ops Q rest (a.put o.dst v') w') : wpList Tryz.prog ops Q (o :: rest) a w := by
 obtain ⟨mi, hmi, hz0, hz1, hzb⟩ := info_parts headInfo
 obtain ⟨vs, h1, h2, h3, h4⟩ := hown
 have sl0 : IsSl v0 := by obtain ⟨A, c, rfl, -⟩ := i0.1; exact ⟨_, _, _, rfl⟩
 have sl1 : IsSl v1 := by obtain ⟨A, c, rfl, -⟩ := i1.1; exact ⟨_, _, _, rfl⟩
 obtain ⟨y0, y1⟩ := pc2 hc
 refine wpList_append_ownC IsSl w hgd s x 22 ho base 44 mi _ 2 48 Tryz.underlying22 hmi hz0 hz1 hzb rfl (by decide) v hs.length (pairL vs) hs0 h2 ⟨B, 0, none⟩ 1 1 [v0, v1] hx rfl (fun j u hu => ?_) (fun u hu => ?_) (by unfold maxLen; omega) (by omega) hbase (by decide) (fun u hu => ?_) (fun j hj => ?_) h3 ?_
 ·have hj : j < 2 := (List.getElem?_eq_some_iff.1 hu).1
  have hadd : (⟨B, 0, none⟩ : Addr).add j = ⟨B, j, none⟩ := by unfold Addr.add; split <;> simp_all
  rw [hadd]
  have hj2 : j = 0 ∨ j = 1 := by omega
  rcases hj2 with rfl | rfl
  ·rw [y0]; simpa using hu
  ·rw [y1]; simpa using hu
 ·obtain ⟨_, _, _, rfl⟩ := sl0
  obtain ⟨_, _, _, rfl⟩ := sl1
  simp at hu
  rcases hu with rfl | rfl <;> rfl
 ·simp at hu
  rcases hu with rfl | rfl
  ·exact sl0
  ·exact sl1
 ·have hj2 : j = 0 ∨ j = 1 := by omega
  rcases hj2 with rfl | rfl <;> exact ⟨none, 0, 0, rfl⟩
 ·intro v' w' g1 g2 g3 g4 g5
  refine h v' w' ⟨vs ++ [(v0, v1)], by simp [h1], by rw [show (hs ++ [hd]).length = hs.length + 1 by simp, pairL_snoc]; exact g1, g4, fun i a b => ?_⟩ (Below.grown (Below.refl base w) g2 hbase (fun k e => (h2.lt k e).1))
  by_cases hi : i < vs.length
  ·rw [List.getElem_append_left hi, List.getElem_append_left (by omega)]
   exact ⟨⟨(h4 i hi (by omega)).1.1.row h2 h3 g2, (h4 i hi (by omega)).1.2⟩, ⟨(h4 i hi (by omega)).2.1.row h2 h3 g2, (h4 i hi (by omega)).2.2⟩⟩
  ·have hi2 : i = vs.length := by simp at a; omega
   subst hi2
   have e1 : (vs ++ [(v0, v1)])[vs.length]'a = (v0, v1) := by simp
   have e2 : (hs ++ [hd])[vs.length]'b = hd := by rw [List.getElem_append_right (by omega)]; simp [h1]
   rw [e1, e2]
   exact ⟨⟨i0.1.row h2 h3 g2, i0.2⟩, ⟨i1.1.row h2 h3 g2, i1.2⟩⟩
theorem IntsB.on {n : Nat} {w V : World} {v : Value} {L : List Int} (h : IntsB n w v L) (hV : ∀ b, n ≤ b → b < w.heap.size → V.heap[b]? = w.heap[b]?) (hs : w.heap.size ≤ V.heap.size) : IntsB n V v L := by
 obtain ⟨⟨A, c, rfl, h1, h2, h3, h4⟩, h5⟩ := h
 refine ⟨⟨A, c, rfl, h1, h2, h3, fun h0 => ?_⟩, h5⟩
 obtain ⟨b, off, rfl, hb, hc⟩ := h4 h0
 exact ⟨b, off, rfl, Nat.lt_of_lt_of_le hb hs, fun j hj => (World.cell?_of_block (hV b (h5 b rfl) hb)).trans (hc j hj)⟩
theorem GrH.on {W V : World} {base : Nat} {vo : Value} {hs : List Hd} (h : GrH W base vo hs) (hV : ∀ b, base ≤ b → b < W.heap.size → V.heap[b]? = W.heap[b]?) (hz : W.heap.size ≤ V.heap.size) : GrH V base vo hs := by
 obtain ⟨vs, h1, h2, h3, h4⟩ := h
 refine ⟨vs, h1, ⟨h2.1, ?_⟩, h3.same fun g hg => hV g (h2.lt g hg).1 (h2.lt g hg).2, fun i a b => ⟨(h4 i a b).1.on hV hz, (h4 i a b).2.on hV hz⟩⟩
 rcases h2.2 with e | ⟨g, cap, cur, e, hbg, hg, rest⟩
 ·exact .inl e
 ·exact .inr ⟨g, cap, cur, e, hbg, (hV g hbg (gsl hg)).trans hg, rest⟩
def TwinOwn (n0 : Nat) (w' : World) (v' : Value) (p : Pic) : Prop := ∃ vh vr m, v' = .agg #[vh, .int .i64 p.tl, .int .i64 p.th, .int .i64 p.al, .int .i64 p.ah, vr] ∧ n0 ≤ m ∧ m ≤ w'.heap.size ∧
 (∀ V : World, (∀ b, b < m → V.heap[b]? = w'.heap[b]?) → w'.heap.size ≤ V.heap.size → HeadsL V vh p.hs) ∧ (0 < p.rds.length → w'.ownsRow m 54 4 vr p.rds.length (p.rds.flatMap rdEnc))
theorem GrH.put {W : World} {base : Nat} {vo : Value} {hs : List Hd} (h : GrH W base vo hs) {X k : Nat} (hX : X < base) (u : Value) : GrH (W.setCell ⟨X, k, none⟩ u) base vo hs := by
 obtain ⟨vs, h1, h2, h3, h4⟩ := h
 exact ⟨vs, h1, own_apart h2 hX u, h3.same fun g hg => Below.heap_setCell W ⟨X, k, none⟩ u g (by have := (h2.lt g hg).1; show g ≠ X; omega), fun i a b => ⟨(h4 i a b).1.put hX u, (h4 i a b).2.put hX u⟩⟩
end Go.Proofs.YtphdalgaemefoaaGreat
namespace Go.Proofs.YtphdalgaemefoaaGreat
set_option maxRecDepth 100000
open Go.RowKit
set_option linter.unusedVariables false
set_option linter.unusedSimpArgs false
def MPred.intsB (n : Nat) (L : List Int) : MPred := ⟨fun v W => IntsB n W v L, fun _ _ _ h hp => hp.below h⟩
def MPred.empB (N : Nat) : MPred := ⟨fun v W => ∃ B, v = .slice (some ⟨B, 0, none⟩) 0 0 ∧ N ≤ B ∧ B < W.heap.size, fun _ _ _ h ⟨B, e, a, b⟩ => ⟨B, e, a, Nat.lt_of_lt_of_le b (Below.size h)⟩⟩
def HdV (n : Nat) (W : World) (v : Value) (h : Hd) : Prop := ∃ v0 v1, v = .agg #[v0, v1] ∧ IntsB n W v0 h.ros ∧ IntsB n W v1 h.rub
def MPred.hd (n : Nat) (h : Hd) : MPred := ⟨fun v W => HdV n W v h, fun _ _ _ hb ⟨v0, v1, e, a, b⟩ => ⟨v0, v1, e, a.below hb, b.below hb⟩⟩
def HdB (n : Nat) (W : World) (v : Value) (h : Hd) : Prop := ∃ X v0 v1, v = .slice (some ⟨X, 0, none⟩) 1 1 ∧ W.heap[X]? = some (.cells #[v0, v1] 44) ∧ IntsB n W v0 h.ros ∧ IntsB n W v1 h.rub
def MPred.hdB (n : Nat) (h : Hd) : MPred := ⟨fun v W => HdB n W v h, fun _ _ _ hb ⟨X, v0, v1, e, k, a, b⟩ => ⟨X, v0, v1, e, blk hb k, a.below hb, b.below hb⟩⟩
end Go.Proofs.YtphdalgaemefoaaGreat
