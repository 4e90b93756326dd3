/- barleycornref02.zero; motion.At; barleycornref02.At. motion.At: the place of a path at a point of the circle. append onto a row of the call's own: where the .. -/
import Derived.Test.YtabfaobakmjiaaaGreatPk35
import Derived.Test.YtabfaobakmjiaaaGreatPk38
namespace Go.Proofs.YtabfaobakmjiaaaGreat
set_option maxRecDepth 100000
set_option maxHeartbeats 1000000
open Go.RowKit Go.Shelf
set_option linter.unusedVariables false
set_option linter.unusedSimpArgs false
theorem qKt (w : World) : Calls Tryz.prog 121 #[] w fun e w' => ∃ v, e = .returned v ∧ Le w w' ∧ TurnF w' v (0, 0) := by
 obtain ⟨W0, hW0, hle, k0⟩ := al1 w (.cells qB4 79);have ⟨hle', k0'⟩ := hyd2 hle k0;clear k0 hle;go_enter Tryz.func121, Tryz.ntmps121;go_wp2_with (fail);clear hW0;go_at_call 63;refine (qDG (fun _ => True) 0 _ (Up.any _) (by decide) (by decide)).mono ?_;rintro e W1 ⟨v1, rfl, hle1, hf1⟩;obtain ⟨ps1, pA1, pn1, pc1, pt1, pB1, pm1, pd1, rfl⟩ := id hf1.fform;have ⟨hle1', hf1'⟩ := hyd2 hle1 hf1;clear hf1 hle1;go_wp2_with (fail);go_at_call 63;refine (qDG (fun _ => True) 0 _ (Up.any _) (by decide) (by decide)).mono ?_;rintro e W2 ⟨v2, rfl, hle2, hf2⟩;obtain ⟨ps2, pA2, pn2, pc2, pt2, pB2, pm2, pd2, rfl⟩ := id hf2.fform;have k2 := bxl (hle1'.out.trans hle2) k0'.out;obtain ⟨g0, g1, g2, g3, g4, g5, g6, g7⟩ := qAB k2;have ⟨f0, f1, f2, f3, f4, f5, f6, f7⟩ := frz8 k2;have hT : TurnF W2 (.agg #[.bool ps1, .slice pA1 pn1 pc1, .bool pt1, .slice pB1 pm1 pd1, .bool ps2, .slice pA2 pn2 pc2, .bool pt2, .slice pB2 pm2 pd2]) (0, 0) := .mk (hf1'.out.le hle2) hf2;obtain ⟨W3, hW3, hle3, k3, hf3⟩ := qEe (hle'.out.trans (hle1'.out.trans hle2)) (Nat.le_refl _) k2 hT;obtain ⟨d0, d1, d2, d3, d4, d5, d6, d7⟩ := qAB k3;have ⟨hle2', hf2', k2', hT', hle3', k3', hf3'⟩ := hyd7 hle2 hf2 k2 hT hle3 k3 hf3;clear hf3 k3 hle3 hT k2 hf2 hle2;go_wp2;exact bodyPost_ret (v := .agg #[.bool ps1, .slice pA1 pn1 pc1, .bool pt1, .slice pB1 pm1 pd1, .bool ps2, .slice pA2 pn2 pc2, .bool pt2, .slice pB2 pm2 pd2]) (by simp [results, Tryz.results121, go_sem, d0, d1, d2, d3, d4, d5, d6, d7]) rfl ⟨_, rfl, hle3'.out, hf3'.out⟩
open Go.RowKit
theorem qDJ {P : Program} (w : World) (base : Nat) (t ty e : TypeId) (i : TypeInfo) (z : Value) (size bytes : Nat) (ht : P.underlying t = some (.slice e)) (hi : P.info? e = some i) (hz : i.zero = some z)
  (hsize : i.size = size) (hby : i.bytes = bytes) (hzs : z.cells.size = size) (hsz : 0 < size)
  (v : Value) (n : Nat) (xs : List Value) (hown : w.ownsRow base e size v n xs)
  (a : Addr) (m c : Nat) (news : List Value) (hl : news.length = m * size) (hnews : ∀ j u, news[j]? = some u → w.cell? (a.add j) = some u) (h1 : ∀ u ∈ news, u.oneCell' = true)
  (h63 : n + m ≤ maxLen) (hbytes : (n + m) * bytes ≤ 140737488355328) (hbase : base ≤ w.heap.size) :
  ∃ v' w', (Builtin.append_ #[t, t] ty #[v, .slice (some a) m c]).run P w = .ok v' w' ∧ w'.ownsRow base e size v' (n + m) (xs ++ news) ∧ w.grownBy w' v.ownBlock ∧
   (v' = .slice none 0 0 ↔ v = .slice none 0 0 ∧ m = 0) ∧ ∀ k, v'.ownBlock = some k → v.ownBlock = some k ∨ w.heap.size ≤ k := by
 obtain ⟨v', w', hr, h2, h3, h4⟩ := run_append_own (P := P) w base t ty e i z size bytes ht hi hz hsize hby hzs hsz v n xs hown a m c news hl hnews h1 h63 hbytes hbase;refine ⟨v', w', hr, h2, h3, h4, ?_⟩;have hsmall : n + m ≤ 9223372036854775807 := by simp only [maxLen] at h63; omega
 rcases hown.2 with ⟨rfl, rfl⟩ | ⟨g, cap, cur, rfl, hbg, hg, hnc, hcm, hcs, htake⟩
 ·have hx : xs = [] := List.eq_nil_of_length_eq_zero (by simpa using hown.1);subst hx;obtain ⟨v2, w2, hr2, k2, _, _⟩ := run_append_own (P := P) w w.heap.size t ty e i z size bytes ht hi hz hsize hby hzs hsz (.slice none 0 0) 0 [] (World.ownsRow_nil _ _ _ _) a m c news hl hnews h1 h63 hbytes (Nat.le_refl _);rw [hr] at hr2;injection hr2 with e1 e2;subst e1 e2;exact fun k hk => .inr (k2.lt k hk).1
 ·subst hsize
  by_cases hroom : n + m ≤ cap
  ·have hfit : n * i.size + news.length ≤ cur.size := by rw [hl, hcs, ← Nat.add_mul]; exact Nat.mul_le_mul_right _ hroom
   have hr2 := run_append_room (P := P) w t ty e i ht hi g n cap cur hg a m c news hl hnews h1 hroom hfit;rw [hr] at hr2;injection hr2 with e1 e2;subst e1;exact fun k hk => .inl hk
  ·have holds : ∀ j u, xs[j]? = some u → w.cell? ((⟨g, 0, none⟩ : Addr).add j) = some u := hown.cells (g := g) rfl;have hr2 := run_append_grow (P := P) w t ty e i z ht hi hz ⟨g, 0, none⟩ n cap xs hown.1 holds a m c news hl hnews (by omega) (by omega) (growslice_fits (by omega) (by rw [hby]; exact hbytes));rw [hr] at hr2;injection hr2 with e1 e2;subst e1;intro k hk;have : w.heap.size = k := by simpa [Value.ownBlock] using hk
   exact .inr (by omega)
theorem qD7 {P : Program} (w : World) {ops : Array Oper} {rest : List Oper} {o : Oper} {a : Act} {Q : Exit → Act → World → Prop} (hgd : o.guard = none) (s x : Operand) (t : TypeId)
  (ho : o.op = .call { callee := .builtin .append, args := #[s, x], argTypes := #[t, t] })
  (base : Nat) (e : TypeId) (i : TypeInfo) (z : Value) (size bytes : Nat) (ht : P.underlying t = some (.slice e)) (hi : P.info? e = some i) (hz : i.zero = some z)
  (hsize : i.size = size) (hby : i.bytes = bytes) (hzs : z.cells.size = size) (hsz : 0 < size)
  (v : Value) (n : Nat) (xs : List Value) (hs : a.eval s = v) (hown : w.ownsRow base e size v n xs)
  (ad : Addr) (m c : Nat) (news : List Value) (hx : a.eval x = .slice (some ad) m c) (hl : news.length = m * size) (hnews : ∀ j u, news[j]? = some u → w.cell? (ad.add j) = some u) (h1 : ∀ u ∈ news, u.oneCell' = true)
  (h63 : n + m ≤ maxLen) (hbytes : (n + m) * bytes ≤ 140737488355328) (hbase : base ≤ w.heap.size)
  (h : ∀ v' w', w'.ownsRow base e size v' (n + m) (xs ++ news) → w.grownBy w' v.ownBlock → (∀ k, v'.ownBlock = some k → v.ownBlock = some k ∨ w.heap.size ≤ k) → wpList P ops Q rest (a.put o.dst v') w') : wpList P ops Q (o :: rest) a w := by
 refine wpList_plain hgd fun _ hK => ?_;obtain ⟨v', w', hr, h2, h3, h4, h5⟩ := qDJ (P := P) w base t o.type e i z size bytes ht hi hz hsize hby hzs hsz v n xs hown ad m c news hl hnews h1 h63 hbytes hbase;unfold Oper.wp execOp;simp only [ho, resolve, invoke, builtin, Sem.run_bind, Sem.run_pure, Result.andThen_ok, List.map_toArray, List.map_cons, List.map_nil, hs, hx, hr];exact hK _ _ (h v' w' h2 h3 h5)
def RowAll (p : Value → Prop) (w : World) (v : Value) : Prop := ∀ g cur t, v.ownBlock = some g → w.heap[g]? = some (.cells cur t) → ∀ u ∈ cur.toList, p u
theorem RowAll.nil (p : Value → Prop) (w : World) : RowAll p w (.slice none 0 0) := fun g cur t h => by cases h
theorem RowAll.same {p : Value → Prop} {w W : World} {v : Value} (h : RowAll p w v) (hk : ∀ g, v.ownBlock = some g → W.heap[g]? = w.heap[g]?) : RowAll p W v := fun g cur t h1 h2 => h g cur t h1 ((hk g h1).symm.trans h2)
theorem qGe {P : Program} (p : Value → Prop) (w : World) (base : Nat) (t ty e : TypeId) (i : TypeInfo) (z : Value) (size bytes : Nat) (ht : P.underlying t = some (.slice e)) (hi : P.info? e = some i) (hz : i.zero = some z)
  (hsize : i.size = size) (hby : i.bytes = bytes) (hzs : z.cells.size = size) (hsz : 0 < size)
  (v : Value) (n : Nat) (xs : List Value) (hown : w.ownsRow base e size v n xs)
  (a : Addr) (m c : Nat) (news : List Value) (hl : news.length = m * size) (hnews : ∀ j u, news[j]? = some u → w.cell? (a.add j) = some u) (h1 : ∀ u ∈ news, u.oneCell' = true)
  (h63 : n + m ≤ maxLen) (hbytes : (n + m) * bytes ≤ 140737488355328) (hbase : base ≤ w.heap.size)
  (hm : 0 < m) (hpn : ∀ u ∈ news, p u) (hpz : ∀ j, j < size → p z.cells[j]!) (hall : RowAll p w v) :
  ∃ v' w', (Builtin.append_ #[t, t] ty #[v, .slice (some a) m c]).run P w = .ok v' w' ∧ w'.ownsRow base e size v' (n + m) (xs ++ news) ∧ w.grownBy w' v.ownBlock ∧
   (∀ k, v'.ownBlock = some k → v.ownBlock = some k ∨ w.heap.size ≤ k) ∧ RowAll p w' v' ∧ ∀ g, v.ownBlock = some g → ∃ cur, w'.heap[g]? = some (.cells cur e) := by
 obtain ⟨v', w', hr, h2, h3, h4, h5⟩ := qDJ (P := P) w base t ty e i z size bytes ht hi hz hsize hby hzs hsz v n xs hown a m c news hl hnews h1 h63 hbytes hbase;refine ⟨v', w', hr, h2, h3, h5, ?_⟩;have hsmall : n + m ≤ 9223372036854775807 := by simp only [maxLen] at h63; omega
 have hzero : ∀ k, ∀ u ∈ (Builtin.zeroCells z.cells k).toList, p u := by
  intro k u hu;unfold Builtin.zeroCells at hu;simp only [Array.toList_map, List.mem_map] at hu;obtain ⟨q, -, rfl⟩ := hu;have := hpz (q % z.cells.size) (by rw [← hzs]; exact Nat.mod_lt _ (by omega));exact this
 rcases hown.2 with ⟨rfl, rfl⟩ | ⟨g, cap, cur, rfl, hbg, hg, hnc, hcm, hcs, htake⟩
 ·have hx : xs = [] := List.eq_nil_of_length_eq_zero (by simpa using hown.1);subst hx;subst hsize
  subst hby
  have hr2 := run_append_nil (P := P) w t ty e i z ht hi hz a m c news hl hnews hm (by omega) (by have hb := hbytes; simp only [Nat.zero_add] at hb; omega);rw [hr] at hr2;injection hr2 with e1 e2;subst e1 e2;refine ⟨?_, fun g h => by cases h⟩;intro k cur' t' hk hk2 u hu;have hgk : w.heap.size = k := by simpa [Value.ownBlock] using hk
  subst hgk;have hh : (w.drew.alloc (.cells (news.toArray ++ Builtin.zeroCells z.cells (grownCap w m 0 e - m)) e)).heap[w.heap.size]? = some (.cells (news.toArray ++ Builtin.zeroCells z.cells (grownCap w m 0 e - m)) e (0, 0)) := heap_alloc_new w.drew _;rw [hh] at hk2;injection hk2 with hk2;injection hk2 with hk2;subst hk2;simp only [Array.toList_append, List.mem_append] at hu
  rcases hu with hu | hu
  ·exact hpn u hu
  ·exact hzero _ u hu
 ·subst hsize
  by_cases hroom : n + m ≤ cap
  ·have hfit : n * i.size + news.length ≤ cur.size := by rw [hl, hcs, ← Nat.add_mul]; exact Nat.mul_le_mul_right _ hroom
   have hr2 := run_append_room (P := P) w t ty e i ht hi g n cap cur hg a m c news hl hnews h1 hroom hfit;rw [hr] at hr2;injection hr2 with e1 e2;subst e1 e2;refine ⟨?_, fun g' h => ?_⟩
   rotate_left
   ·have hgk : g = g' := by simpa [Value.ownBlock] using h
    subst hgk;exact ⟨_, setRow_heap w g cur _ e _ hg⟩
   intro k cur' t' hk hk2 u hu;have hgk : g = k := by simpa [Value.ownBlock] using hk
   subst hgk;have hh : (w.setRow g (cur.toList.take (n * i.size) ++ news ++ cur.toList.drop (n * i.size + news.length)).toArray).heap[g]? = some (.cells (cur.toList.take (n * i.size) ++ news ++ cur.toList.drop (n * i.size + news.length)).toArray e (0, 0)) := setRow_heap w g cur _ e _ hg;rw [hh] at hk2;injection hk2 with hk2;injection hk2 with hk2;subst hk2;have hcur := hall g cur e rfl hg;simp only [List.mem_append] at hu
   rcases hu with (hu | hu) | hu
   ·exact hcur u (List.mem_of_mem_take hu)
   ·exact hpn u hu
   ·exact hcur u (List.mem_of_mem_drop hu)
  ·have holds : ∀ j u, xs[j]? = some u → w.cell? ((⟨g, 0, none⟩ : Addr).add j) = some u := hown.cells (g := g) rfl;have hr2 := run_append_grow (P := P) w t ty e i z ht hi hz ⟨g, 0, none⟩ n cap xs hown.1 holds a m c news hl hnews (by omega) (by omega) (growslice_fits (by omega) (by rw [hby]; exact hbytes));rw [hr] at hr2;injection hr2 with e1 e2;subst e1 e2;refine ⟨?_, fun g' h => ?_⟩
   rotate_left
   ·have hgk : g = g' := by simpa [Value.ownBlock] using h
    subst hgk;exact ⟨cur, (heap_alloc_old w.drew _ (gsl hg)).trans hg⟩
   intro k cur' t' hk hk2 u hu;have hgk : w.heap.size = k := by simpa [Value.ownBlock] using hk
   subst hgk;have hh : (w.drew.alloc (.cells (xs.toArray ++ news.toArray ++ Builtin.zeroCells z.cells (grownCap w (n + m) cap e - (n + m))) e)).heap[w.heap.size]? = some (.cells (xs.toArray ++ news.toArray ++ Builtin.zeroCells z.cells (grownCap w (n + m) cap e - (n + m))) e (0, 0)) := heap_alloc_new w.drew _;rw [hh] at hk2;injection hk2 with hk2;injection hk2 with hk2;subst hk2;have hcur := hall g cur e rfl hg;simp only [Array.toList_append, List.mem_append] at hu
   rcases hu with (hu | hu) | hu
   ·rw [← htake] at hu; exact hcur u (List.mem_of_mem_take hu)
   ·exact hpn u hu
   ·exact hzero _ u hu
theorem qFK {P : Program} (p : Value → Prop) (w : World) {ops : Array Oper} {rest : List Oper} {o : Oper} {a : Act} {Q : Exit → Act → World → Prop} (hgd : o.guard = none) (s x : Operand) (t : TypeId)
  (ho : o.op = .call { callee := .builtin .append, args := #[s, x], argTypes := #[t, t] })
  (base : Nat) (e : TypeId) (i : TypeInfo) (z : Value) (size bytes : Nat) (ht : P.underlying t = some (.slice e)) (hi : P.info? e = some i) (hz : i.zero = some z)
  (hsize : i.size = size) (hby : i.bytes = bytes) (hzs : z.cells.size = size) (hsz : 0 < size)
  (v : Value) (n : Nat) (xs : List Value) (hs : a.eval s = v) (hown : w.ownsRow base e size v n xs)
  (ad : Addr) (m c : Nat) (news : List Value) (hx : a.eval x = .slice (some ad) m c) (hl : news.length = m * size) (hnews : ∀ j u, news[j]? = some u → w.cell? (ad.add j) = some u) (h1 : ∀ u ∈ news, u.oneCell' = true)
  (h63 : n + m ≤ maxLen) (hbytes : (n + m) * bytes ≤ 140737488355328) (hbase : base ≤ w.heap.size)
  (hm : 0 < m) (hpn : ∀ u ∈ news, p u) (hpz : ∀ j, j < size → p z.cells[j]!) (hall : RowAll p w v)
  (h : ∀ v' w', w'.ownsRow base e size v' (n + m) (xs ++ news) → w.grownBy w' v.ownBlock → (∀ k, v'.ownBlock = some k → v.ownBlock = some k ∨ w.heap.size ≤ k) → RowAll p w' v' → (∀ g, v.ownBlock = some g → ∃ cur, w'.heap[g]? = some (.cells cur e)) → wpList P ops Q rest (a.put o.dst v') w') : wpList P ops Q (o :: rest) a w := by
 refine wpList_plain hgd fun _ hK => ?_;obtain ⟨v', w', hr, h2, h3, h4, h5, h6⟩ := qGe (P := P) p w base t o.type e i z size bytes ht hi hz hsize hby hzs hsz v n xs hown ad m c news hl hnews h1 h63 hbytes hbase hm hpn hpz hall;unfold Oper.wp execOp;simp only [ho, resolve, invoke, builtin, Sem.run_bind, Sem.run_pure, Result.andThen_ok, List.map_toArray, List.map_cons, List.map_nil, hs, hx, hr];exact hK _ _ (h v' w' h2 h3 h4 h5 h6)
def SpotsV (w : World) (v : Value) (L : List (Int × Int)) : Prop :=
 ∃ A c, v = .slice A L.length c ∧ L.length ≤ 1000 ∧ (0 < L.length → ∃ b off, A = some ⟨b, off, none⟩ ∧ b < w.heap.size ∧ ∀ j (h : j < L.length), w.cell? ⟨b, off + j * 2, none⟩ = some (.int .i64 L[j].1) ∧ w.cell? ⟨b, off + j * 2 + 1, none⟩ = some (.int .i64 L[j].2))
theorem SpotsV.le {w W : World} {v : Value} {L : List (Int × Int)} (h : SpotsV w v L) (hb : Le w W) : SpotsV W v L := by
 obtain ⟨A, c, hv, h1, h2⟩ := h;refine ⟨A, c, hv, h1, fun h0 => ?_⟩;obtain ⟨b, off, ha, hlt, hc⟩ := h2 h0;exact ⟨b, off, ha, Nat.lt_of_lt_of_le hlt hb.size, fun j hj => ⟨(Below.cell hb (p := ⟨b, _, none⟩) hlt).trans (hc j hj).1, (Below.cell hb (p := ⟨b, _, none⟩) hlt).trans (hc j hj).2⟩⟩
def qGf (x : Int × Int) : List Value := [.int .i64 x.1, .int .i64 x.2]
def qBP (L : List (Int × Int)) : List Value := L.flatMap qGf
theorem qFL (L : List (Int × Int)) (x : Int × Int) : qBP (L ++ [x]) = qBP L ++ [.int .i64 x.1, .int .i64 x.2] := by
 unfold qBP; rw [List.flatMap_append]; simp [qGf]
theorem qJP (L : List (Int × Int)) : ∀ j (h : j < L.length), (qBP L)[j * 2]? = some (.int .i64 L[j].1) ∧ (qBP L)[j * 2 + 1]? = some (.int .i64 L[j].2) := by
 induction L with
 | nil => intro j h; simp at h
 | cons x xs ih =>
  intro j h;have e : qBP (x :: xs) = [.int .i64 x.1, .int .i64 x.2] ++ qBP xs := by unfold qBP; rw [List.flatMap_cons]; rfl
  rw [e]
  cases j with
  | zero => exact ⟨rfl, rfl⟩
  | succ j =>
   obtain ⟨h1, h2⟩ := ih j (by simpa using h);rw [List.getElem?_append_right (by simp; omega), List.getElem?_append_right (by simp; omega)];rw [show (j + 1) * 2 - [Value.int .i64 x.1, Value.int .i64 x.2].length = j * 2 by simp; omega, show (j + 1) * 2 + 1 - [Value.int .i64 x.1, Value.int .i64 x.2].length = j * 2 + 1 by simp; omega];exact ⟨h1, h2⟩
theorem SpotsV.of_row {w : World} {base : Nat} {e : TypeId} {v : Value} {L : List (Int × Int)} (h : w.ownsRow base e 2 v L.length (qBP L)) (hl : L.length ≤ 1000) : SpotsV w v L := by
 have h0 := h
 rcases h.2 with ⟨rfl, hx⟩ | ⟨g, cap, cur, rfl, hbg, hg, hnc, hcm, hcs, htake⟩
 ·have hn : L = [] := by
   cases L with
   | nil => rfl
   | cons x xs => simp at hx
  subst hn;exact ⟨none, 0, rfl, hl, fun h => absurd h (Nat.lt_irrefl 0)⟩
 ·refine ⟨some ⟨g, 0, none⟩, cap, rfl, hl, fun _ => ⟨g, 0, rfl, (gsl hg), fun j hj => ?_⟩⟩;obtain ⟨g1, g2⟩ := qJP L j hj;rw [Nat.zero_add];exact ⟨by rw [h0.cellAt (j * 2) (by omega)]; exact g1, by rw [h0.cellAt (j * 2 + 1) (by omega)]; exact g2⟩
theorem qLd (W : World) (x : Int × Int) (e : TypeId) : ∀ (j : Nat) (u : Value), [Value.int .i64 x.1, Value.int .i64 x.2][j]? = some u → (W.alloc (.cells #[.int .i64 x.1, .int .i64 x.2] e)).cell? ((⟨W.heap.size, 0, none⟩ : Addr).add j) = some u := by
 intro j u hu;have hj : j < 2 := (List.getElem?_eq_some_iff.1 hu).1;have hadd : (⟨W.heap.size, 0, none⟩ : Addr).add j = ⟨W.heap.size, j, none⟩ := by unfold Addr.add; split <;> simp_all
 rw [hadd, World.cell?_alloc_at _ _ _ _ rfl]
 match j, hj with
 | 0, _ => simpa using hu
 | 1, _ => simpa using hu
theorem qKu : (Tryz.prog.info? 41).map (fun i => (i.zero, i.size, i.bytes)) = some (some (.agg #[.int .i64 0, .int .i64 0]), 2, 16) := by kernel_rfl
end Go.Proofs.YtabfaobakmjiaaaGreat
