/- rosette.Turned; a list of lists of Booleans under way; rows of Booleans that are marked. -/
import Derived.Test.YtkblockodaiigaaRdShV
import Derived.Test.YtkblockodaiigaaRdFitsR
namespace Go.Proofs.Ytkblockodaiigaa
set_option maxRecDepth 100000
set_option maxHeartbeats 1000000
open Go.RowKit
set_option linter.unusedVariables false
set_option linter.unusedSimpArgs false
theorem pf_rd_Turned (v : Value) (f : List Int) (s : Nat) (w : World) (hv : Ints w v f) (hok : rosOk f = true) (hs : s < f.length) :
  Calls Try.prog 43 #[v, .int .i64 s] w fun e w' => ∃ v', e = .returned (.tuple #[v', .int .i64 0]) ∧ Below w.heap.size w w' ∧ w'.ownsRow w.heap.size 3 1 v' f.length ((movedL f (s : Int)).map vint) := by
 obtain ⟨h1, h2, -⟩ := rosOk_iff.1 hok
 have hc := pf_ros_Check v f w hv true hok
 have hm := pf_turned v f s w hv (by omega) (by omega) (by omega)
 rw [turnL_length, turn_moved f s (by omega)] at hm
 have ha : ∀ W, Calls Try.prog 79 #[.int .i64 s, .int .i64 f.length] W fun e w' => e = .returned (.int .i64 (s : Int)) ∧ W = w' := fun W => by
  have h := pf_ros_around s f.length W (by omega) (by omega) (by unfold Mid; omega)
  rwa [emod_small hs] at h
 obtain ⟨A, c, rfl, -⟩ := id hv
 have ⟨hc', hm', hv', hok', ha'⟩ := hyd5 hc hm hv hok ha
 clear ha hok hv hm hc
 go_enter Try.func43, Try.ntmps43
 go_wp2_with (first | (go_at_call 64; ((with_reducible refine (hc'.out).mono ?_); rintro e w' ⟨rfl, rfl⟩)) | (go_at_call 79; ((with_reducible refine (ha'.out _).mono ?_); rintro e w' ⟨rfl, rfl⟩)) | (go_at_call 78; ((with_reducible refine (hm'.out).mono ?_); rintro e w' ⟨v1, rfl, hb, ho⟩)))
 go_ret2
 exact ⟨_, rfl, hb, ho⟩
theorem Arr.rowB {W W' : World} {r v : Value} {xs : List Bool} {base e size m : Nat} {ys : List Value} (h : Arr vbool W v xs) (ho : W.ownsRow base e size r m ys) (hall : RowAll IsSl W r) (hg : W.grownBy W' r.ownBlock) : Arr vbool W' v xs := by
 obtain ⟨A, c, hv, h1, h2, hN, h3⟩ := h
 refine ⟨A, c, hv, h1, h2, hN, fun h0 => ?_⟩
 obtain ⟨b, off, ha, hlt, hc⟩ := h3 h0
 have hne : some b ≠ r.ownBlock := fun e => by
  rcases ho.2 with ⟨rfl, -⟩ | ⟨g, cap, cur, rfl, hbg, hgb, -⟩
  ·cases e
  ·have hbg2 : b = g := by simpa [Value.ownBlock] using e
   subst hbg2
   have h4 := hc 0 h0
   simp only [World.cell?, hgb] at h4
   have hm : Value.bool xs[0] ∈ cur.toList := by
    have h6 : cur[off + 0]? = some (Value.bool xs[0]) := by simpa using h4
    have h7 : cur.toList[off + 0]? = some (Value.bool xs[0]) := by simpa using h6
    exact List.mem_of_getElem? h7
   obtain ⟨_, _, _, hz⟩ := hall b cur _ rfl hgb _ hm
   cases hz
 exact ⟨b, off, ha, Nat.lt_of_lt_of_le hlt hg.size, fun j hj => (World.cell?_of_block (hg.block b hlt hne)).trans (hc j hj)⟩
def GrB (W : World) (base : Nat) (vo : Value) (L : List (List Bool)) : Prop := ∃ vs : List Value, vs.length = L.length ∧ W.ownsRow base 95 1 vo L.length vs ∧ RowAll IsSl W vo ∧ ∀ i (h1 : i < vs.length) (h2 : i < L.length), Arr vbool W vs[i] L[i]
theorem GrB.nil (W : World) (base : Nat) : GrB W base (.slice none 0 0) [] := ⟨[], rfl, World.ownsRow_nil _ _ _ _, RowAll.nil _ _, fun i h => absurd h (Nat.not_lt_zero i)⟩
theorem GrB.le {W W' : World} {base : Nat} {vo : Value} {L : List (List Bool)} (h : GrB W base vo L) (hb : Below W.heap.size W W') : GrB W' base vo L := by
 obtain ⟨vs, h1, h2, h3, h4⟩ := h
 exact ⟨vs, h1, own_below h2 hb, h3.same fun g hg => hb.block g (h2.lt g hg).2, fun i a b => (h4 i a b).below hb⟩
theorem GrB.form {W : World} {base : Nat} {vo : Value} {L : List (List Bool)} (h : GrB W base vo L) : ∃ A c, vo = .slice A L.length c := by
 obtain ⟨vs, h1, h2, -⟩ := h
 rcases h2.2 with ⟨rfl, e⟩ | ⟨g, cap, cur, rfl, _⟩
 ·exact ⟨none, 0, by rw [e]⟩
 ·exact ⟨_, cap, rfl⟩
theorem GrB.grid {W : World} {base : Nat} {vo : Value} {L : List (List Bool)} (h : GrB W base vo L) : GridB W vo L := by
 obtain ⟨vs, h1, h2, h3, h4⟩ := h
 have h0 := h2
 rcases h2.2 with ⟨rfl, hx⟩ | ⟨g, cap, cur, rfl, hbg, hg, hnc, hcm, hcs, htake⟩
 ·have hn : L = [] := List.eq_nil_of_length_eq_zero hx
  subst hn
  exact ⟨none, 0, rfl, Nat.le_refl _, Nat.zero_le _, fun _ => rfl, fun h => absurd h (Nat.lt_irrefl 0)⟩
 ·refine ⟨some ⟨g, 0, none⟩, cap, rfl, hnc, hcm, fun h => (by cases h), fun _ => ⟨g, 0, rfl, (gsl hg), fun j hj => ⟨vs[j]'(by omega), ?_, h4 j (by omega) hj⟩⟩⟩
  rw [Nat.zero_add, h0.cellAt j (by omega)]
  exact List.getElem?_eq_getElem (by omega)
theorem GrB.put {W : World} {base : Nat} {vo : Value} {L : List (List Bool)} (h : GrB W base vo L) {X k : Nat} {cs : Array Value} {t : TypeId} (hX : W.heap[X]? = some (.cells cs t)) (hlt : X < base) (ht : 95 ≠ t) (hne : ∀ c ∈ cs.toList, ∀ b, c ≠ .bool b) (u : Value) : GrB (W.setCell ⟨X, k, none⟩ u) base vo L := by
 obtain ⟨vs, h1, h2, h3, h4⟩ := h
 refine ⟨vs, h1, own_apart h2 hlt u, h3.same fun g hg => (Below.heap_setCell W ⟨X, k, none⟩ u g (by have := (h2.lt g hg).1; show g ≠ X; omega)), fun i a b => ?_⟩
 obtain ⟨A, c, hv, q1, q2, hN, q3⟩ := h4 i a b
 refine ⟨A, c, hv, q1, q2, hN, fun h0 => ?_⟩
 obtain ⟨bb, off, ha, hl, hc⟩ := q3 h0
 have hneb : bb ≠ X := by
  rintro rfl
  have h5 := hc 0 h0
  simp only [World.cell?, hX] at h5
  have h6 : cs[off + 0]? = some (Value.bool (L[i])[0]) := by simpa using h5
  have h7 : cs.toList[off + 0]? = some (Value.bool (L[i])[0]) := by simpa using h6
  exact hne _ (List.mem_of_getElem? h7) _ rfl
 exact ⟨bb, off, ha, by simpa [World.setCell] using hl, fun j hj => (set_apart hneb W k (off + j) u).trans (hc j hj)⟩
theorem rowInfoB : (Try.prog.info? 95).map (fun i => (i.zero, i.size, i.bytes)) = some (some (.slice none 0 0), 1, 24) := by kernel_rfl
theorem elemB9 : Elem1 Try.prog 95 4 (.bool false) 1 := ⟨Try.underlying95, by kernel_rfl, rfl⟩
theorem wpList_appRB (w : World) {ops : Array Oper} {rest : List Oper} {o : Oper} {a : Act} {Q : Exit → Act → World → Prop} (hgd : o.guard = none) (s x : Operand)
  (ho : o.op = .call { callee := .builtin .append, args := #[s, x], argTypes := #[92, 92] })
  (base : Nat) (v : Value) (L : List (List Bool)) (hs : a.eval s = v) (hown : GrB w base v L)
  (B : Nat) (A : Option Addr) (n c : Nat) (y : List Bool) (hx : a.eval x = .slice (some ⟨B, 0, none⟩) 1 1) (hc0 : w.cell? ⟨B, 0, none⟩ = some (.slice A n c)) (hy : Arr vbool w (.slice A n c) y) (hlen : L.length ≤ 1000000) (hbase : base ≤ w.heap.size)
  (h : ∀ v' w', GrB w' base v' (L ++ [y]) → (∀ n, n ≤ base → Below n w w') → wpList Try.prog ops Q rest (a.put o.dst v') w') : wpList Try.prog ops Q (o :: rest) a w := by
 obtain ⟨mi, hmi, hz0, hz1, hzb⟩ := info_parts rowInfoB
 obtain ⟨vs, h1, h2, h3, h4⟩ := hown
 refine wpList_append_ownC IsSl w hgd s x 92 ho base 95 mi _ 1 24 Try.underlying92 hmi hz0 hz1 hzb rfl (by decide) v L.length vs hs h2 ⟨B, 0, none⟩ 1 1 [.slice A n c] hx rfl (fun j u hu => ?_) (fun u hu => ?_) (by unfold maxLen; omega) (by omega) hbase (by decide) (fun u hu => ?_) (fun j hj => ?_) h3 ?_
 ·have hj : j < 1 := (List.getElem?_eq_some_iff.1 hu).1
  obtain rfl : j = 0 := by omega
  have hadd : (⟨B, 0, none⟩ : Addr).add 0 = ⟨B, 0, none⟩ := by unfold Addr.add; split <;> simp_all
  rw [hadd, hc0]; simpa using hu
 ·obtain rfl : u = _ := by simpa using hu
  rfl
 ·obtain rfl : u = _ := by simpa using hu
  exact ⟨_, _, _, rfl⟩
 ·obtain rfl : j = 0 := by omega
  exact ⟨none, 0, 0, rfl⟩
 ·intro v' w' g1 g2 g3 g4 g5
  refine h v' w' ⟨vs ++ [.slice A n c], by simp [h1], by rw [show (L ++ [y]).length = L.length + 1 by simp]; exact g1, g4, fun i a b => ?_⟩ (fun n hn => Below.grown (Below.refl n w) g2 (by omega) (fun k e => by have := (h2.lt k e).1; omega))
  by_cases hi : i < vs.length
  ·rw [List.getElem_append_left hi, List.getElem_append_left (by omega)]
   exact (h4 i hi (by omega)).rowB h2 h3 g2
  ·have hi2 : i = vs.length := by simp at a; omega
   subst hi2
   have e1 : (vs ++ [Value.slice A n c])[vs.length]'a = .slice A n c := by simp
   have e2 : (L ++ [y])[vs.length]'b = y := by rw [List.getElem_append_right (by omega)]; simp [h1]
   rw [e1, e2]
   exact hy.rowB h2 h3 g2
end Go.Proofs.Ytkblockodaiigaa
