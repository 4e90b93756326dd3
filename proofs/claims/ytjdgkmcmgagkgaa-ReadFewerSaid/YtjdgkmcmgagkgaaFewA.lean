/- An element is taken out of a slice in place (append(l[:i], l[i+1:]...)); what a range that is found contains. One way through the comparison of ReadFewer's loop. One way through the comparison of ReadFewer's loop. One way through the comparison of ReadFewer's loop. One way through the comparison of ReadFewer's loop. One way through the comparison of ReadFewer's loop. One way through the comparison of ReadFewer's loop. One way through the comparison of ReadFewer's loop. -/
import Derived.Test.YtjdgkmcmgagkgaaFndLaw
import Derived.Test.YtjdgkmcmgagkgaaRdAlv
import Derived.Test.YtjdgkmcmgagkgaaRdTwin
import Derived.Lib.MinMax
namespace Go.Proofs.Ytjdgkmcmgagkgaa
set_option maxRecDepth 100000
set_option maxHeartbeats 4000000
open Go.RowKit
set_option linter.unusedVariables false
set_option linter.unusedSimpArgs false
theorem run_append_roomS {P : Program} (w : World) (t ty e : TypeId) (i : TypeInfo) (ht : P.underlying t = some (.slice e)) (hi : P.info? e = some i) (g sLen sCap : Nat) (a : Addr) (m c : Nat) (news : List Value) (cur : Array Value) (te : TypeId)
  (hg : w.heap[g]? = some (.cells cur te (0, 0))) (hl : news.length = m * i.size) (hnews : ∀ j u, news[j]? = some u → w.cell? (a.add j) = some u) (h1 : ∀ u ∈ news, u.oneCell' = true) (hroom : sLen + m ≤ sCap) (hfit : sLen * i.size + news.length ≤ cur.size) :
  (Builtin.append_ #[t, t] ty #[.slice (some ⟨g, 0, none⟩) sLen sCap, .slice (some a) m c]).run P w = .ok (.slice (some ⟨g, 0, none⟩) (sLen + m) sCap) (w.setRow g (cur.toList.take (sLen * i.size) ++ news ++ cur.toList.drop (sLen * i.size + news.length)).toArray) := by
 have hfc := run_firstCells_some (P := P) w i.size m a m c news hl hnews
 have hst := run_storeCells_at P g (sLen * i.size) te news 0 cur w hg (by simpa using hfit) h1
 simp only [Nat.add_zero] at hst
 simp [Builtin.append_, run_underlying ht, sizeOf, typeInfo, hi, Builtin.lenOf, hroom, hfc, Addr.add_lit, hst]
theorem flat_take {α : Type} {enc : α → List Value} {k : Nat} (hk : ∀ x, (enc x).length = k) (L : List α) (i : Nat) (hi : i ≤ L.length) : (L.flatMap enc).take (i * k) = (L.take i).flatMap enc := by
 have hl : ((L.take i).flatMap enc).length = i * k := by rw [flat_length hk, List.length_take]; congr 1; omega
 conv => lhs; rw [← List.take_append_drop i L, List.flatMap_append]
 rw [List.take_append_of_le_length (by omega), List.take_of_length_le (by omega)]
theorem flat_drop {α : Type} {enc : α → List Value} {k : Nat} (hk : ∀ x, (enc x).length = k) (L : List α) (i : Nat) (hi : i ≤ L.length) : (L.flatMap enc).drop (i * k) = (L.drop i).flatMap enc := by
 have hl : ((L.take i).flatMap enc).length = i * k := by rw [flat_length hk, List.length_take]; congr 1; omega
 conv => lhs; rw [← List.take_append_drop i L, List.flatMap_append]
 rw [List.drop_append_of_le_length (by omega), List.drop_of_length_le (by omega), List.nil_append]
theorem step_appDel {α : Type} {enc : α → List Value} {k : Nat} {P : Program} {w : World} {ops : Array Oper} {o : Oper} {a : Act} {K : Act → World → Prop} {Q : Exit → Act → World → Prop} {E : Prop} (hgd : o.guard = none) (s x : Operand) (t : TypeId)
  (hk : ∀ x, (enc x).length = k) (h1c : ∀ x, ∀ u ∈ enc x, u.oneCell' = true) (ho : o.op = .call { callee := .builtin .append, args := #[s, x], argTypes := #[t, t] })
  (base : Nat) (e : TypeId) (ht : P.underlying t = some (.slice e)) (hinfo : (P.info? e).map (·.size) = some k) (g cap : Nat) (L : List α) (hown : w.ownsRow base e k (.slice (some ⟨g, 0, none⟩) L.length cap) L.length (L.flatMap enc)) (i N : Nat) (hi : i < L.length)
  (hs : a.eval s = .slice (some ⟨g, 0, none⟩) i cap) (ad : Addr) (m c : Nat) (hx : a.eval x = .slice (some ad) m c) (hm : m = L.length - (i + 1)) (had : 0 < m → ad = ⟨g, (i + 1) * k, none⟩) (hN : N = L.length - 1)
  (h : ∀ w', w'.ownsRow base e k (.slice (some ⟨g, 0, none⟩) N cap) N ((L.eraseIdx i).flatMap enc) → Below base w w' → w'.heap.size = w.heap.size → (∀ b, b ≠ g → w'.heap[b]? = w.heap[b]?) → K (a.put o.dst (.slice (some ⟨g, 0, none⟩) N cap)) w') :
  if Region.wanted o (yielded ops a.tmps) = true then Oper.wp P o a w K Q else E := by
 have hw : Region.wanted o (yielded ops a.tmps) = true := by simp [Region.wanted, hgd]
 rw [if_pos hw]
 cases hq : P.info? e with
 | none => simp [hq] at hinfo
 | some ti =>
 have hti : ti.size = k := by simpa [hq] using hinfo
 have h0 := hown
 rcases hown.2 with ⟨h', -⟩ | ⟨g', cap', cur, h', hbg, hg, hnc, hcm, hcs, htk⟩
 ·simp at h'
 simp only [Value.slice.injEq, Option.some.injEq, Addr.mk.injEq, and_true, true_and] at h'
 obtain ⟨rfl, rfl⟩ := h'
 have hfl := flat_length hk L
 have hnl : ((L.drop (i + 1)).flatMap enc).length = m * k := by rw [flat_length hk, List.length_drop, hm]
 have hNm : i + m = N := by omega
 have hroom : i + m ≤ cap := by omega
 have hsz : i * k + m * k = N * k := by rw [← Nat.add_mul, hNm]
 have hNk : N * k ≤ cap * k := Nat.mul_le_mul_right _ (by omega)
 have hrun := run_append_roomS (P := P) w t o.type e ti ht hq g i cap ad m c ((L.drop (i + 1)).flatMap enc) cur e hg (by rw [hti]; exact hnl) (fun j u hu => by
  have hj : j < m * k := by rw [← hnl]; exact (List.getElem?_eq_some_iff.1 hu).1
  have hm0 : 0 < m := Nat.pos_of_ne_zero fun e => by rw [e, Nat.zero_mul] at hj; omega
  obtain rfl := had hm0
  have hadd : (⟨g, (i + 1) * k, none⟩ : Addr).add j = ⟨g, (i + 1) * k + j, none⟩ := by unfold Addr.add; split <;> simp_all
  have hlt : (i + 1) * k + j < L.length * k := by
   have : (i + 1) * k + m * k = L.length * k := by rw [← Nat.add_mul]; congr 1; omega
   omega
  rw [hadd, h0.cellAt _ hlt, ← List.getElem?_drop, flat_drop hk L (i + 1) (by omega)]
  exact hu) (fun u hu => by
  rw [List.mem_flatMap] at hu
  obtain ⟨y, -, hu⟩ := hu
  exact h1c y u hu) hroom (by rw [hti, hnl, hsz, hcs]; exact hNk)
 unfold Oper.wp execOp
 simp only [ho, resolve, invoke, builtin, Sem.run_bind, Sem.run_pure, Result.andThen_ok, List.map_toArray, List.map_cons, List.map_nil, hs, hx, hrun]
 rw [hNm]
 refine h _ ⟨?_, .inr ⟨g, cap, _, rfl, hbg, setRow_heap w g _ _ e _ hg, by omega, hcm, ?_, ?_⟩⟩ (below_setRow (Below.refl _ _) hbg _) (by simp) (fun b hb => ?_)
 ·rw [flat_length hk, List.length_eraseIdx, if_pos hi, hN]
 ·have : cur.toList.length = cap * k := by simpa using hcs
  simp only [List.size_toArray, List.length_append, List.length_take, List.length_drop, hnl, hti, this]
  omega
 ·have hct : cur.toList.length = cap * k := by simpa using hcs
  have e1 : cur.toList.take (i * k) = (L.take i).flatMap enc := by
   rw [← flat_take hk L i (by omega), ← htk, List.take_take]
   congr 1
   have : i * k ≤ L.length * k := Nat.mul_le_mul_right _ (by omega)
   omega
  rw [hti, hnl, e1, List.take_append_of_le_length (by rw [List.length_append, hnl, ← e1, List.length_take]; omega), List.take_of_length_le (by rw [List.length_append, hnl, ← e1, List.length_take]; omega), List.eraseIdx_eq_take_drop_succ, List.flatMap_append]
 ·simp only [World.setRow, Array.getElem?_modify]
  rw [if_neg (Ne.symm hb)]
theorem flat_setj {α : Type} {enc : α → List Value} {k : Nat} (hk : ∀ x, (enc x).length = k) : ∀ (L : List α) (i : Nat) (hi : i < L.length) (j : Nat) (v : Value) (y : α), j < k → enc y = (enc L[i]).set j v → (L.flatMap enc).set (i * k + j) v = (L.set i y).flatMap enc
 | x :: xs, 0, _, j, v, y, hj, hy => by
  rw [List.flatMap_cons, Nat.zero_mul, Nat.zero_add, List.set_append_left _ _ (by rw [hk]; exact hj), List.set_cons_zero, List.flatMap_cons, hy]
  rfl
 | x :: xs, i + 1, hi, j, v, y, hj, hy => by
  have := flat_setj hk xs i (by simpa using hi) j v y hj (by simpa using hy)
  rw [List.flatMap_cons, List.set_append_right _ _ (by rw [hk, Nat.add_mul]; omega), hk, show (i + 1) * k + j - k = i * k + j by rw [Nat.add_mul]; omega, this, List.set_cons_succ, List.flatMap_cons]
theorem set_modify {α : Type} (L : List α) (k : Nat) (f : α → α) (y : α) (h : k < L.length) (hy : y = f L[k]) : L.set k y = L.modify k f := by
 apply List.ext_getElem (by simp)
 intro i h1 h2
 rw [List.getElem_set, List.getElem_modify]
 by_cases e : k = i
 ·subst e; rw [if_pos rfl, if_pos rfl, hy]
 ·rw [if_neg e, if_neg e]
def seqLF : Code → Code
 | .seq a _ => a
 | c => c
def seqRF : Code → Code
 | .seq _ b => b
 | c => c
def ctOne (x m : Fnd) : Bool := decide (m.head = x.head) && (decide (m.throw = x.throw) && (decide (m.adv = x.adv) && (decide (m.lo ≤ x.lo) && decide (x.hi ≤ m.hi))))
def ctB (L : List Fnd) (x : Fnd) (k : Nat) : Bool := (L.take k).any (ctOne x)
theorem ctB_succ {L : List Fnd} {x : Fnd} {k : Nat} (hk : k < L.length) : ctB L x (k + 1) = (ctB L x k || ctOne x L[k]) := by
 unfold ctB
 rw [List.take_succ_eq_append_getElem hk, List.any_append]
 simp
theorem ctB_all {L : List Fnd} {x : Fnd} (h : ∃ m ∈ L, m.head = x.head ∧ m.throw = x.throw ∧ m.adv = x.adv ∧ m.lo ≤ x.lo ∧ x.hi ≤ m.hi) : ctB L x L.length = true := by
 unfold ctB
 rw [List.take_length, List.any_eq_true]
 obtain ⟨m, hm, h1, h2, h3, h4, h5⟩ := h
 exact ⟨m, hm, by unfold ctOne; simp [h1, h2, h3, h4, h5]⟩
noncomputable def fw22 : Code := (fromRegionN 22 ((Try.f4).body.getD .skip)).getD 0 .skip
end Go.Proofs.Ytjdgkmcmgagkgaa
namespace Go.Proofs.Ytjdgkmcmgagkgaa
set_option maxRecDepth 100000
set_option maxHeartbeats 4000000
open Go.RowKit
set_option linter.unusedVariables false
set_option linter.unusedSimpArgs false
theorem few_c0 (g1 o1 nm c2 X k : Nat) (x0 x1 x2 x3 x4 y0 y1 y2 y3 y4 : Int) (W : World) (hlt : k < nm)
  (q0 : W.cell? ⟨g1, o1 + k * 5, none⟩ = some (.int .i64 y0)) (q1 : W.cell? ⟨g1, o1 + k * 5 + 1, none⟩ = some (.int .i64 y1)) (q2 : W.cell? ⟨g1, o1 + k * 5 + 2, none⟩ = some (.int .i64 y2)) (q3 : W.cell? ⟨g1, o1 + k * 5 + 3, none⟩ = some (.int .i64 y3)) (q4 : W.cell? ⟨g1, o1 + k * 5 + 4, none⟩ = some (.int .i64 y4))
  (d0 : W.cell? ⟨X, 0, none⟩ = some (.int .i64 x0)) (d1 : W.cell? ⟨X, 1, none⟩ = some (.int .i64 x1)) (d2 : W.cell? ⟨X, 2, none⟩ = some (.int .i64 x2)) (d3 : W.cell? ⟨X, 3, none⟩ = some (.int .i64 x3)) (d4 : W.cell? ⟨X, 4, none⟩ = some (.int .i64 x4)) 
  (Q : Exit → Act → World → Prop) (hQ : ∀ (nq : Nat) (t' : Array Value), (∃ u : Nat → Value, t' = #[(u 0), (u 1), (u 2), (u 3), (u 4), (u 5), (u 6), (u 7), .bool false, .bool true, (u 10), (u 11), (u 12), (u 13), (u 14), .slice (some ⟨g1, o1, none⟩) nm c2, .int .i64 0, .pointer (some ⟨X, 0, none⟩), .bool true, .int .i64 (k : Int), (u 20), (u 21), (u 22), (u 23), (u 24), (u 25), (u 26), (u 27), (u 28), (u 29), (u 30), (u 31), (u 32), (u 33), (u 34), (u 35), (u 36), (u 37), (u 38), (u 39), (u 40), (u 41), (u 42), (u 43), (u 44), (u 45), (u 46), (u 47), (u 48), (u 49), (u 50), (u 51), (u 52), (u 53), (u 54), (u 55), (u 56), (u 57), (u 58), (u 59), (u 60), (u 61), (u 62), (u 63), (u 64), (u 65), (u 66), (u 67), (u 68), (u 69), (u 70), (u 71), (u 72), (u 73), (u 74), (u 75), (u 76), (u 77), (u 78), (u 79), (u 80), (u 81), (u 82), (u 83), (u 84), (u 85), (u 86), (u 87), (u 88), (u 89), (u 90), (u 91), (u 92), (u 93), (u 94), (u 95), (u 96), (u 97), (u 98), (u 99), (u 100), (u 101), (u 102), (u 103), (u 104), (u 105), (u 106), (u 107), (u 108), (u 109), (u 110), (u 111), .int .i64 (nm : Int), .int .i64 (k : Int), (u 114), (u 115), (u 116), (u 117), (u 118), (u 119), (u 120), (u 121), (u 122), (u 123), (u 124), (u 125), (u 126), (u 127), (u 128), (u 129), (u 130), (u 131), (u 132), (u 133), (u 134), (u 135), (u 136), (u 137), (u 138), (u 139), (u 140), (u 141), (u 142), (u 143), (u 144), (u 145), (u 146), (u 147), (u 148), (u 149), (u 150), (u 151), (u 152), (u 153), (u 154), (u 155), (u 156), (u 157), (u 158), (u 159), (u 160), (u 161), (u 162), (u 163), (u 164), (u 165), (u 166), (u 167), (u 168), (u 169), (u 170), (u 171), (u 172), (u 173), (u 174), (u 175)]) → Q .normal { tmps := t', defers := [] } (W.drewN nq)) (t' : Array Value) (ht : ∃ u : Nat → Value, t' = #[(u 0), (u 1), (u 2), (u 3), (u 4), (u 5), (u 6), (u 7), .bool false, .bool true, (u 10), (u 11), (u 12), (u 13), (u 14), .slice (some ⟨g1, o1, none⟩) nm c2, .int .i64 0, .pointer (some ⟨X, 0, none⟩), .bool true, .int .i64 (k : Int), (u 20), (u 21), (u 22), (u 23), (u 24), (u 25), (u 26), (u 27), (u 28), (u 29), (u 30), (u 31), (u 32), (u 33), (u 34), (u 35), (u 36), (u 37), (u 38), (u 39), (u 40), (u 41), (u 42), (u 43), (u 44), (u 45), (u 46), (u 47), (u 48), (u 49), (u 50), (u 51), (u 52), (u 53), (u 54), (u 55), (u 56), (u 57), (u 58), (u 59), (u 60), (u 61), (u 62), (u 63), (u 64), (u 65), (u 66), (u 67), (u 68), (u 69), (u 70), (u 71), (u 72), (u 73), (u 74), (u 75), (u 76), (u 77), (u 78), (u 79), (u 80), (u 81), (u 82), (u 83), (u 84), (u 85), (u 86), (u 87), (u 88), (u 89), (u 90), (u 91), (u 92), (u 93), (u 94), (u 95), (u 96), (u 97), (u 98), (u 99), (u 100), (u 101), (u 102), (u 103), (u 104), (u 105), (u 106), (u 107), (u 108), (u 109), (u 110), (u 111), .int .i64 (nm : Int), .int .i64 (k : Int), (u 114), (u 115), (u 116), (u 117), (u 118), (u 119), (u 120), (u 121), (u 122), (u 123), (u 124), (u 125), (u 126), (u 127), (u 128), (u 129), (u 130), (u 131), (u 132), (u 133), (u 134), (u 135), (u 136), (u 137), (u 138), (u 139), (u 140), (u 141), (u 142), (u 143), (u 144), (u 145), (u 146), (u 147), (u 148), (u 149), (u 150), (u 151), (u 152), (u 153), (u 154), (u 155), (u 156), (u 157), (u 158), (u 159), (u 160), (u 161), (u 162), (u 163), (u 164), (u 165), (u 166), (u 167), (u 168), (u 169), (u 170), (u 171), (u 172), (u 173), (u 174), (u 175)]) :
  fw22.wp Try.prog Q { tmps := t', defers := [] } W := by
 obtain ⟨u, rfl⟩ := ht
 conv => arg 2; whnf
 have j3 : (k : Int) < (nm : Int) := by omega
 have j4 : (0 : Int) ≤ (k : Int) := by omega
 have hQ' := hyd1 hQ
 clear hQ
 go_wp2_with (fail)
 go_quiet (fail)
 exact hQ'.out nq _ (frame_mkN _ _ (by kernel_rfl))
end Go.Proofs.Ytjdgkmcmgagkgaa
namespace Go.Proofs.Ytjdgkmcmgagkgaa
set_option maxRecDepth 100000
set_option maxHeartbeats 4000000
open Go.RowKit
set_option linter.unusedVariables false
set_option linter.unusedSimpArgs false
theorem few_c1 (g1 o1 nm c2 X k : Nat) (x0 x1 x2 x3 x4 y0 y1 y2 y3 y4 : Int) (W : World) (hlt : k < nm)
  (q0 : W.cell? ⟨g1, o1 + k * 5, none⟩ = some (.int .i64 y0)) (q1 : W.cell? ⟨g1, o1 + k * 5 + 1, none⟩ = some (.int .i64 y1)) (q2 : W.cell? ⟨g1, o1 + k * 5 + 2, none⟩ = some (.int .i64 y2)) (q3 : W.cell? ⟨g1, o1 + k * 5 + 3, none⟩ = some (.int .i64 y3)) (q4 : W.cell? ⟨g1, o1 + k * 5 + 4, none⟩ = some (.int .i64 y4))
  (d0 : W.cell? ⟨X, 0, none⟩ = some (.int .i64 x0)) (d1 : W.cell? ⟨X, 1, none⟩ = some (.int .i64 x1)) (d2 : W.cell? ⟨X, 2, none⟩ = some (.int .i64 x2)) (d3 : W.cell? ⟨X, 3, none⟩ = some (.int .i64 x3)) (d4 : W.cell? ⟨X, 4, none⟩ = some (.int .i64 x4)) (h0 : ¬ y0 = x0)
  (Q : Exit → Act → World → Prop) (hQ : ∀ (nq : Nat) (t' : Array Value), (∃ u : Nat → Value, t' = #[(u 0), (u 1), (u 2), (u 3), (u 4), (u 5), (u 6), (u 7), .bool false, .bool true, (u 10), (u 11), (u 12), (u 13), (u 14), .slice (some ⟨g1, o1, none⟩) nm c2, .int .i64 0, .pointer (some ⟨X, 0, none⟩), .bool false, .int .i64 (k : Int), (u 20), (u 21), (u 22), (u 23), (u 24), (u 25), (u 26), (u 27), (u 28), (u 29), (u 30), (u 31), (u 32), (u 33), (u 34), (u 35), (u 36), (u 37), (u 38), (u 39), (u 40), (u 41), (u 42), (u 43), (u 44), (u 45), (u 46), (u 47), (u 48), (u 49), (u 50), (u 51), (u 52), (u 53), (u 54), (u 55), (u 56), (u 57), (u 58), (u 59), (u 60), (u 61), (u 62), (u 63), (u 64), (u 65), (u 66), (u 67), (u 68), (u 69), (u 70), (u 71), (u 72), (u 73), (u 74), (u 75), (u 76), (u 77), (u 78), (u 79), (u 80), (u 81), (u 82), (u 83), (u 84), (u 85), (u 86), (u 87), (u 88), (u 89), (u 90), (u 91), (u 92), (u 93), (u 94), (u 95), (u 96), (u 97), (u 98), (u 99), (u 100), (u 101), (u 102), (u 103), (u 104), (u 105), (u 106), (u 107), (u 108), (u 109), (u 110), (u 111), .int .i64 (nm : Int), .int .i64 (k : Int), (u 114), (u 115), (u 116), (u 117), (u 118), (u 119), (u 120), (u 121), (u 122), (u 123), (u 124), (u 125), (u 126), (u 127), (u 128), (u 129), (u 130), (u 131), (u 132), (u 133), (u 134), (u 135), (u 136), (u 137), (u 138), (u 139), (u 140), (u 141), (u 142), (u 143), (u 144), (u 145), (u 146), (u 147), (u 148), (u 149), (u 150), (u 151), (u 152), (u 153), (u 154), (u 155), (u 156), (u 157), (u 158), (u 159), (u 160), (u 161), (u 162), (u 163), (u 164), (u 165), (u 166), (u 167), (u 168), (u 169), (u 170), (u 171), (u 172), (u 173), (u 174), (u 175)]) → Q .normal { tmps := t', defers := [] } (W.drewN nq)) (t' : Array Value) (ht : ∃ u : Nat → Value, t' = #[(u 0), (u 1), (u 2), (u 3), (u 4), (u 5), (u 6), (u 7), .bool false, .bool true, (u 10), (u 11), (u 12), (u 13), (u 14), .slice (some ⟨g1, o1, none⟩) nm c2, .int .i64 0, .pointer (some ⟨X, 0, none⟩), .bool false, .int .i64 (k : Int), (u 20), (u 21), (u 22), (u 23), (u 24), (u 25), (u 26), (u 27), (u 28), (u 29), (u 30), (u 31), (u 32), (u 33), (u 34), (u 35), (u 36), (u 37), (u 38), (u 39), (u 40), (u 41), (u 42), (u 43), (u 44), (u 45), (u 46), (u 47), (u 48), (u 49), (u 50), (u 51), (u 52), (u 53), (u 54), (u 55), (u 56), (u 57), (u 58), (u 59), (u 60), (u 61), (u 62), (u 63), (u 64), (u 65), (u 66), (u 67), (u 68), (u 69), (u 70), (u 71), (u 72), (u 73), (u 74), (u 75), (u 76), (u 77), (u 78), (u 79), (u 80), (u 81), (u 82), (u 83), (u 84), (u 85), (u 86), (u 87), (u 88), (u 89), (u 90), (u 91), (u 92), (u 93), (u 94), (u 95), (u 96), (u 97), (u 98), (u 99), (u 100), (u 101), (u 102), (u 103), (u 104), (u 105), (u 106), (u 107), (u 108), (u 109), (u 110), (u 111), .int .i64 (nm : Int), .int .i64 (k : Int), (u 114), (u 115), (u 116), (u 117), (u 118), (u 119), (u 120), (u 121), (u 122), (u 123), (u 124), (u 125), (u 126), (u 127), (u 128), (u 129), (u 130), (u 131), (u 132), (u 133), (u 134), (u 135), (u 136), (u 137), (u 138), (u 139), (u 140), (u 141), (u 142), (u 143), (u 144), (u 145), (u 146), (u 147), (u 148), (u 149), (u 150), (u 151), (u 152), (u 153), (u 154), (u 155), (u 156), (u 157), (u 158), (u 159), (u 160), (u 161), (u 162), (u 163), (u 164), (u 165), (u 166), (u 167), (u 168), (u 169), (u 170), (u 171), (u 172), (u 173), (u 174), (u 175)]) :
  fw22.wp Try.prog Q { tmps := t', defers := [] } W := by
 obtain ⟨u, rfl⟩ := ht
 conv => arg 2; whnf
 have j3 : (k : Int) < (nm : Int) := by omega
 have j4 : (0 : Int) ≤ (k : Int) := by omega
 have a0d : decide (y0 = x0) = false := decide_eq_false h0
 have b1 : (y0 == x0) = false := by simp [h0]
 have hQ' := hyd1 hQ
 clear hQ
 go_wp2_with (fail)
 go_quiet (fail)
 exact hQ'.out nq _ (frame_mkN _ _ (by kernel_rfl))
end Go.Proofs.Ytjdgkmcmgagkgaa
namespace Go.Proofs.Ytjdgkmcmgagkgaa
set_option maxRecDepth 100000
set_option maxHeartbeats 4000000
open Go.RowKit
set_option linter.unusedVariables false
set_option linter.unusedSimpArgs false
theorem few_c2 (g1 o1 nm c2 X k : Nat) (x0 x1 x2 x3 x4 y0 y1 y2 y3 y4 : Int) (W : World) (hlt : k < nm)
  (q0 : W.cell? ⟨g1, o1 + k * 5, none⟩ = some (.int .i64 y0)) (q1 : W.cell? ⟨g1, o1 + k * 5 + 1, none⟩ = some (.int .i64 y1)) (q2 : W.cell? ⟨g1, o1 + k * 5 + 2, none⟩ = some (.int .i64 y2)) (q3 : W.cell? ⟨g1, o1 + k * 5 + 3, none⟩ = some (.int .i64 y3)) (q4 : W.cell? ⟨g1, o1 + k * 5 + 4, none⟩ = some (.int .i64 y4))
  (d0 : W.cell? ⟨X, 0, none⟩ = some (.int .i64 x0)) (d1 : W.cell? ⟨X, 1, none⟩ = some (.int .i64 x1)) (d2 : W.cell? ⟨X, 2, none⟩ = some (.int .i64 x2)) (d3 : W.cell? ⟨X, 3, none⟩ = some (.int .i64 x3)) (d4 : W.cell? ⟨X, 4, none⟩ = some (.int .i64 x4)) (h0 : y0 = x0) (h1 : ¬ y1 = x1)
  (Q : Exit → Act → World → Prop) (hQ : ∀ (nq : Nat) (t' : Array Value), (∃ u : Nat → Value, t' = #[(u 0), (u 1), (u 2), (u 3), (u 4), (u 5), (u 6), (u 7), .bool false, .bool true, (u 10), (u 11), (u 12), (u 13), (u 14), .slice (some ⟨g1, o1, none⟩) nm c2, .int .i64 0, .pointer (some ⟨X, 0, none⟩), .bool false, .int .i64 (k : Int), (u 20), (u 21), (u 22), (u 23), (u 24), (u 25), (u 26), (u 27), (u 28), (u 29), (u 30), (u 31), (u 32), (u 33), (u 34), (u 35), (u 36), (u 37), (u 38), (u 39), (u 40), (u 41), (u 42), (u 43), (u 44), (u 45), (u 46), (u 47), (u 48), (u 49), (u 50), (u 51), (u 52), (u 53), (u 54), (u 55), (u 56), (u 57), (u 58), (u 59), (u 60), (u 61), (u 62), (u 63), (u 64), (u 65), (u 66), (u 67), (u 68), (u 69), (u 70), (u 71), (u 72), (u 73), (u 74), (u 75), (u 76), (u 77), (u 78), (u 79), (u 80), (u 81), (u 82), (u 83), (u 84), (u 85), (u 86), (u 87), (u 88), (u 89), (u 90), (u 91), (u 92), (u 93), (u 94), (u 95), (u 96), (u 97), (u 98), (u 99), (u 100), (u 101), (u 102), (u 103), (u 104), (u 105), (u 106), (u 107), (u 108), (u 109), (u 110), (u 111), .int .i64 (nm : Int), .int .i64 (k : Int), (u 114), (u 115), (u 116), (u 117), (u 118), (u 119), (u 120), (u 121), (u 122), (u 123), (u 124), (u 125), (u 126), (u 127), (u 128), (u 129), (u 130), (u 131), (u 132), (u 133), (u 134), (u 135), (u 136), (u 137), (u 138), (u 139), (u 140), (u 141), (u 142), (u 143), (u 144), (u 145), (u 146), (u 147), (u 148), (u 149), (u 150), (u 151), (u 152), (u 153), (u 154), (u 155), (u 156), (u 157), (u 158), (u 159), (u 160), (u 161), (u 162), (u 163), (u 164), (u 165), (u 166), (u 167), (u 168), (u 169), (u 170), (u 171), (u 172), (u 173), (u 174), (u 175)]) → Q .normal { tmps := t', defers := [] } (W.drewN nq)) (t' : Array Value) (ht : ∃ u : Nat → Value, t' = #[(u 0), (u 1), (u 2), (u 3), (u 4), (u 5), (u 6), (u 7), .bool false, .bool true, (u 10), (u 11), (u 12), (u 13), (u 14), .slice (some ⟨g1, o1, none⟩) nm c2, .int .i64 0, .pointer (some ⟨X, 0, none⟩), .bool false, .int .i64 (k : Int), (u 20), (u 21), (u 22), (u 23), (u 24), (u 25), (u 26), (u 27), (u 28), (u 29), (u 30), (u 31), (u 32), (u 33), (u 34), (u 35), (u 36), (u 37), (u 38), (u 39), (u 40), (u 41), (u 42), (u 43), (u 44), (u 45), (u 46), (u 47), (u 48), (u 49), (u 50), (u 51), (u 52), (u 53), (u 54), (u 55), (u 56), (u 57), (u 58), (u 59), (u 60), (u 61), (u 62), (u 63), (u 64), (u 65), (u 66), (u 67), (u 68), (u 69), (u 70), (u 71), (u 72), (u 73), (u 74), (u 75), (u 76), (u 77), (u 78), (u 79), (u 80), (u 81), (u 82), (u 83), (u 84), (u 85), (u 86), (u 87), (u 88), (u 89), (u 90), (u 91), (u 92), (u 93), (u 94), (u 95), (u 96), (u 97), (u 98), (u 99), (u 100), (u 101), (u 102), (u 103), (u 104), (u 105), (u 106), (u 107), (u 108), (u 109), (u 110), (u 111), .int .i64 (nm : Int), .int .i64 (k : Int), (u 114), (u 115), (u 116), (u 117), (u 118), (u 119), (u 120), (u 121), (u 122), (u 123), (u 124), (u 125), (u 126), (u 127), (u 128), (u 129), (u 130), (u 131), (u 132), (u 133), (u 134), (u 135), (u 136), (u 137), (u 138), (u 139), (u 140), (u 141), (u 142), (u 143), (u 144), (u 145), (u 146), (u 147), (u 148), (u 149), (u 150), (u 151), (u 152), (u 153), (u 154), (u 155), (u 156), (u 157), (u 158), (u 159), (u 160), (u 161), (u 162), (u 163), (u 164), (u 165), (u 166), (u 167), (u 168), (u 169), (u 170), (u 171), (u 172), (u 173), (u 174), (u 175)]) :
  fw22.wp Try.prog Q { tmps := t', defers := [] } W := by
 obtain ⟨u, rfl⟩ := ht
 conv => arg 2; whnf
 have j3 : (k : Int) < (nm : Int) := by omega
 have j4 : (0 : Int) ≤ (k : Int) := by omega
 subst h0
 have a1d : decide (y1 = x1) = false := decide_eq_false h1
 have b2 : (y1 == x1) = false := by simp [h1]
 have hQ' := hyd1 hQ
 clear hQ
 go_wp2_with (fail)
 go_quiet (fail)
 exact hQ'.out nq _ (frame_mkN _ _ (by kernel_rfl))
end Go.Proofs.Ytjdgkmcmgagkgaa
namespace Go.Proofs.Ytjdgkmcmgagkgaa
set_option maxRecDepth 100000
set_option maxHeartbeats 4000000
open Go.RowKit
set_option linter.unusedVariables false
set_option linter.unusedSimpArgs false
theorem few_c3 (g1 o1 nm c2 X k : Nat) (x0 x1 x2 x3 x4 y0 y1 y2 y3 y4 : Int) (W : World) (hlt : k < nm)
  (q0 : W.cell? ⟨g1, o1 + k * 5, none⟩ = some (.int .i64 y0)) (q1 : W.cell? ⟨g1, o1 + k * 5 + 1, none⟩ = some (.int .i64 y1)) (q2 : W.cell? ⟨g1, o1 + k * 5 + 2, none⟩ = some (.int .i64 y2)) (q3 : W.cell? ⟨g1, o1 + k * 5 + 3, none⟩ = some (.int .i64 y3)) (q4 : W.cell? ⟨g1, o1 + k * 5 + 4, none⟩ = some (.int .i64 y4))
  (d0 : W.cell? ⟨X, 0, none⟩ = some (.int .i64 x0)) (d1 : W.cell? ⟨X, 1, none⟩ = some (.int .i64 x1)) (d2 : W.cell? ⟨X, 2, none⟩ = some (.int .i64 x2)) (d3 : W.cell? ⟨X, 3, none⟩ = some (.int .i64 x3)) (d4 : W.cell? ⟨X, 4, none⟩ = some (.int .i64 x4)) (h0 : y0 = x0) (h1 : y1 = x1) (h2 : ¬ y2 = x2)
  (Q : Exit → Act → World → Prop) (hQ : ∀ (nq : Nat) (t' : Array Value), (∃ u : Nat → Value, t' = #[(u 0), (u 1), (u 2), (u 3), (u 4), (u 5), (u 6), (u 7), .bool false, .bool true, (u 10), (u 11), (u 12), (u 13), (u 14), .slice (some ⟨g1, o1, none⟩) nm c2, .int .i64 0, .pointer (some ⟨X, 0, none⟩), .bool false, .int .i64 (k : Int), (u 20), (u 21), (u 22), (u 23), (u 24), (u 25), (u 26), (u 27), (u 28), (u 29), (u 30), (u 31), (u 32), (u 33), (u 34), (u 35), (u 36), (u 37), (u 38), (u 39), (u 40), (u 41), (u 42), (u 43), (u 44), (u 45), (u 46), (u 47), (u 48), (u 49), (u 50), (u 51), (u 52), (u 53), (u 54), (u 55), (u 56), (u 57), (u 58), (u 59), (u 60), (u 61), (u 62), (u 63), (u 64), (u 65), (u 66), (u 67), (u 68), (u 69), (u 70), (u 71), (u 72), (u 73), (u 74), (u 75), (u 76), (u 77), (u 78), (u 79), (u 80), (u 81), (u 82), (u 83), (u 84), (u 85), (u 86), (u 87), (u 88), (u 89), (u 90), (u 91), (u 92), (u 93), (u 94), (u 95), (u 96), (u 97), (u 98), (u 99), (u 100), (u 101), (u 102), (u 103), (u 104), (u 105), (u 106), (u 107), (u 108), (u 109), (u 110), (u 111), .int .i64 (nm : Int), .int .i64 (k : Int), (u 114), (u 115), (u 116), (u 117), (u 118), (u 119), (u 120), (u 121), (u 122), (u 123), (u 124), (u 125), (u 126), (u 127), (u 128), (u 129), (u 130), (u 131), (u 132), (u 133), (u 134), (u 135), (u 136), (u 137), (u 138), (u 139), (u 140), (u 141), (u 142), (u 143), (u 144), (u 145), (u 146), (u 147), (u 148), (u 149), (u 150), (u 151), (u 152), (u 153), (u 154), (u 155), (u 156), (u 157), (u 158), (u 159), (u 160), (u 161), (u 162), (u 163), (u 164), (u 165), (u 166), (u 167), (u 168), (u 169), (u 170), (u 171), (u 172), (u 173), (u 174), (u 175)]) → Q .normal { tmps := t', defers := [] } (W.drewN nq)) (t' : Array Value) (ht : ∃ u : Nat → Value, t' = #[(u 0), (u 1), (u 2), (u 3), (u 4), (u 5), (u 6), (u 7), .bool false, .bool true, (u 10), (u 11), (u 12), (u 13), (u 14), .slice (some ⟨g1, o1, none⟩) nm c2, .int .i64 0, .pointer (some ⟨X, 0, none⟩), .bool false, .int .i64 (k : Int), (u 20), (u 21), (u 22), (u 23), (u 24), (u 25), (u 26), (u 27), (u 28), (u 29), (u 30), (u 31), (u 32), (u 33), (u 34), (u 35), (u 36), (u 37), (u 38), (u 39), (u 40), (u 41), (u 42), (u 43), (u 44), (u 45), (u 46), (u 47), (u 48), (u 49), (u 50), (u 51), (u 52), (u 53), (u 54), (u 55), (u 56), (u 57), (u 58), (u 59), (u 60), (u 61), (u 62), (u 63), (u 64), (u 65), (u 66), (u 67), (u 68), (u 69), (u 70), (u 71), (u 72), (u 73), (u 74), (u 75), (u 76), (u 77), (u 78), (u 79), (u 80), (u 81), (u 82), (u 83), (u 84), (u 85), (u 86), (u 87), (u 88), (u 89), (u 90), (u 91), (u 92), (u 93), (u 94), (u 95), (u 96), (u 97), (u 98), (u 99), (u 100), (u 101), (u 102), (u 103), (u 104), (u 105), (u 106), (u 107), (u 108), (u 109), (u 110), (u 111), .int .i64 (nm : Int), .int .i64 (k : Int), (u 114), (u 115), (u 116), (u 117), (u 118), (u 119), (u 120), (u 121), (u 122), (u 123), (u 124), (u 125), (u 126), (u 127), (u 128), (u 129), (u 130), (u 131), (u 132), (u 133), (u 134), (u 135), (u 136), (u 137), (u 138), (u 139), (u 140), (u 141), (u 142), (u 143), (u 144), (u 145), (u 146), (u 147), (u 148), (u 149), (u 150), (u 151), (u 152), (u 153), (u 154), (u 155), (u 156), (u 157), (u 158), (u 159), (u 160), (u 161), (u 162), (u 163), (u 164), (u 165), (u 166), (u 167), (u 168), (u 169), (u 170), (u 171), (u 172), (u 173), (u 174), (u 175)]) :
  fw22.wp Try.prog Q { tmps := t', defers := [] } W := by
 obtain ⟨u, rfl⟩ := ht
 conv => arg 2; whnf
 have j3 : (k : Int) < (nm : Int) := by omega
 have j4 : (0 : Int) ≤ (k : Int) := by omega
 subst h0 h1
 have a2d : decide (y2 = x2) = false := decide_eq_false h2
 have b3 : (y2 == x2) = false := by simp [h2]
 have hQ' := hyd1 hQ
 clear hQ
 go_wp2_with (fail)
 go_quiet (fail)
 exact hQ'.out nq _ (frame_mkN _ _ (by kernel_rfl))
end Go.Proofs.Ytjdgkmcmgagkgaa
namespace Go.Proofs.Ytjdgkmcmgagkgaa
set_option maxRecDepth 100000
set_option maxHeartbeats 4000000
open Go.RowKit
set_option linter.unusedVariables false
set_option linter.unusedSimpArgs false
theorem few_c4 (g1 o1 nm c2 X k : Nat) (x0 x1 x2 x3 x4 y0 y1 y2 y3 y4 : Int) (W : World) (hlt : k < nm)
  (q0 : W.cell? ⟨g1, o1 + k * 5, none⟩ = some (.int .i64 y0)) (q1 : W.cell? ⟨g1, o1 + k * 5 + 1, none⟩ = some (.int .i64 y1)) (q2 : W.cell? ⟨g1, o1 + k * 5 + 2, none⟩ = some (.int .i64 y2)) (q3 : W.cell? ⟨g1, o1 + k * 5 + 3, none⟩ = some (.int .i64 y3)) (q4 : W.cell? ⟨g1, o1 + k * 5 + 4, none⟩ = some (.int .i64 y4))
  (d0 : W.cell? ⟨X, 0, none⟩ = some (.int .i64 x0)) (d1 : W.cell? ⟨X, 1, none⟩ = some (.int .i64 x1)) (d2 : W.cell? ⟨X, 2, none⟩ = some (.int .i64 x2)) (d3 : W.cell? ⟨X, 3, none⟩ = some (.int .i64 x3)) (d4 : W.cell? ⟨X, 4, none⟩ = some (.int .i64 x4)) (h0 : y0 = x0) (h1 : y1 = x1) (h2 : y2 = x2) (h3 : ¬ y3 ≤ x3)
  (Q : Exit → Act → World → Prop) (hQ : ∀ (nq : Nat) (t' : Array Value), (∃ u : Nat → Value, t' = #[(u 0), (u 1), (u 2), (u 3), (u 4), (u 5), (u 6), (u 7), .bool false, .bool true, (u 10), (u 11), (u 12), (u 13), (u 14), .slice (some ⟨g1, o1, none⟩) nm c2, .int .i64 0, .pointer (some ⟨X, 0, none⟩), .bool false, .int .i64 (k : Int), (u 20), (u 21), (u 22), (u 23), (u 24), (u 25), (u 26), (u 27), (u 28), (u 29), (u 30), (u 31), (u 32), (u 33), (u 34), (u 35), (u 36), (u 37), (u 38), (u 39), (u 40), (u 41), (u 42), (u 43), (u 44), (u 45), (u 46), (u 47), (u 48), (u 49), (u 50), (u 51), (u 52), (u 53), (u 54), (u 55), (u 56), (u 57), (u 58), (u 59), (u 60), (u 61), (u 62), (u 63), (u 64), (u 65), (u 66), (u 67), (u 68), (u 69), (u 70), (u 71), (u 72), (u 73), (u 74), (u 75), (u 76), (u 77), (u 78), (u 79), (u 80), (u 81), (u 82), (u 83), (u 84), (u 85), (u 86), (u 87), (u 88), (u 89), (u 90), (u 91), (u 92), (u 93), (u 94), (u 95), (u 96), (u 97), (u 98), (u 99), (u 100), (u 101), (u 102), (u 103), (u 104), (u 105), (u 106), (u 107), (u 108), (u 109), (u 110), (u 111), .int .i64 (nm : Int), .int .i64 (k : Int), (u 114), (u 115), (u 116), (u 117), (u 118), (u 119), (u 120), (u 121), (u 122), (u 123), (u 124), (u 125), (u 126), (u 127), (u 128), (u 129), (u 130), (u 131), (u 132), (u 133), (u 134), (u 135), (u 136), (u 137), (u 138), (u 139), (u 140), (u 141), (u 142), (u 143), (u 144), (u 145), (u 146), (u 147), (u 148), (u 149), (u 150), (u 151), (u 152), (u 153), (u 154), (u 155), (u 156), (u 157), (u 158), (u 159), (u 160), (u 161), (u 162), (u 163), (u 164), (u 165), (u 166), (u 167), (u 168), (u 169), (u 170), (u 171), (u 172), (u 173), (u 174), (u 175)]) → Q .normal { tmps := t', defers := [] } (W.drewN nq)) (t' : Array Value) (ht : ∃ u : Nat → Value, t' = #[(u 0), (u 1), (u 2), (u 3), (u 4), (u 5), (u 6), (u 7), .bool false, .bool true, (u 10), (u 11), (u 12), (u 13), (u 14), .slice (some ⟨g1, o1, none⟩) nm c2, .int .i64 0, .pointer (some ⟨X, 0, none⟩), .bool false, .int .i64 (k : Int), (u 20), (u 21), (u 22), (u 23), (u 24), (u 25), (u 26), (u 27), (u 28), (u 29), (u 30), (u 31), (u 32), (u 33), (u 34), (u 35), (u 36), (u 37), (u 38), (u 39), (u 40), (u 41), (u 42), (u 43), (u 44), (u 45), (u 46), (u 47), (u 48), (u 49), (u 50), (u 51), (u 52), (u 53), (u 54), (u 55), (u 56), (u 57), (u 58), (u 59), (u 60), (u 61), (u 62), (u 63), (u 64), (u 65), (u 66), (u 67), (u 68), (u 69), (u 70), (u 71), (u 72), (u 73), (u 74), (u 75), (u 76), (u 77), (u 78), (u 79), (u 80), (u 81), (u 82), (u 83), (u 84), (u 85), (u 86), (u 87), (u 88), (u 89), (u 90), (u 91), (u 92), (u 93), (u 94), (u 95), (u 96), (u 97), (u 98), (u 99), (u 100), (u 101), (u 102), (u 103), (u 104), (u 105), (u 106), (u 107), (u 108), (u 109), (u 110), (u 111), .int .i64 (nm : Int), .int .i64 (k : Int), (u 114), (u 115), (u 116), (u 117), (u 118), (u 119), (u 120), (u 121), (u 122), (u 123), (u 124), (u 125), (u 126), (u 127), (u 128), (u 129), (u 130), (u 131), (u 132), (u 133), (u 134), (u 135), (u 136), (u 137), (u 138), (u 139), (u 140), (u 141), (u 142), (u 143), (u 144), (u 145), (u 146), (u 147), (u 148), (u 149), (u 150), (u 151), (u 152), (u 153), (u 154), (u 155), (u 156), (u 157), (u 158), (u 159), (u 160), (u 161), (u 162), (u 163), (u 164), (u 165), (u 166), (u 167), (u 168), (u 169), (u 170), (u 171), (u 172), (u 173), (u 174), (u 175)]) :
  fw22.wp Try.prog Q { tmps := t', defers := [] } W := by
 obtain ⟨u, rfl⟩ := ht
 conv => arg 2; whnf
 have j3 : (k : Int) < (nm : Int) := by omega
 have j4 : (0 : Int) ≤ (k : Int) := by omega
 subst h0 h1 h2
 have a3d : decide (y3 ≤ x3) = false := decide_eq_false h3
 have hQ' := hyd1 hQ
 clear hQ
 go_wp2_with (fail)
 go_quiet (fail)
 exact hQ'.out nq _ (frame_mkN _ _ (by kernel_rfl))
end Go.Proofs.Ytjdgkmcmgagkgaa
namespace Go.Proofs.Ytjdgkmcmgagkgaa
set_option maxRecDepth 100000
set_option maxHeartbeats 4000000
open Go.RowKit
set_option linter.unusedVariables false
set_option linter.unusedSimpArgs false
theorem few_c5 (g1 o1 nm c2 X k : Nat) (x0 x1 x2 x3 x4 y0 y1 y2 y3 y4 : Int) (W : World) (hlt : k < nm)
  (q0 : W.cell? ⟨g1, o1 + k * 5, none⟩ = some (.int .i64 y0)) (q1 : W.cell? ⟨g1, o1 + k * 5 + 1, none⟩ = some (.int .i64 y1)) (q2 : W.cell? ⟨g1, o1 + k * 5 + 2, none⟩ = some (.int .i64 y2)) (q3 : W.cell? ⟨g1, o1 + k * 5 + 3, none⟩ = some (.int .i64 y3)) (q4 : W.cell? ⟨g1, o1 + k * 5 + 4, none⟩ = some (.int .i64 y4))
  (d0 : W.cell? ⟨X, 0, none⟩ = some (.int .i64 x0)) (d1 : W.cell? ⟨X, 1, none⟩ = some (.int .i64 x1)) (d2 : W.cell? ⟨X, 2, none⟩ = some (.int .i64 x2)) (d3 : W.cell? ⟨X, 3, none⟩ = some (.int .i64 x3)) (d4 : W.cell? ⟨X, 4, none⟩ = some (.int .i64 x4)) (h0 : y0 = x0) (h1 : y1 = x1) (h2 : y2 = x2) (h3 : y3 ≤ x3) (h4 : ¬ x4 ≤ y4)
  (Q : Exit → Act → World → Prop) (hQ : ∀ (nq : Nat) (t' : Array Value), (∃ u : Nat → Value, t' = #[(u 0), (u 1), (u 2), (u 3), (u 4), (u 5), (u 6), (u 7), .bool false, .bool true, (u 10), (u 11), (u 12), (u 13), (u 14), .slice (some ⟨g1, o1, none⟩) nm c2, .int .i64 0, .pointer (some ⟨X, 0, none⟩), .bool false, .int .i64 (k : Int), (u 20), (u 21), (u 22), (u 23), (u 24), (u 25), (u 26), (u 27), (u 28), (u 29), (u 30), (u 31), (u 32), (u 33), (u 34), (u 35), (u 36), (u 37), (u 38), (u 39), (u 40), (u 41), (u 42), (u 43), (u 44), (u 45), (u 46), (u 47), (u 48), (u 49), (u 50), (u 51), (u 52), (u 53), (u 54), (u 55), (u 56), (u 57), (u 58), (u 59), (u 60), (u 61), (u 62), (u 63), (u 64), (u 65), (u 66), (u 67), (u 68), (u 69), (u 70), (u 71), (u 72), (u 73), (u 74), (u 75), (u 76), (u 77), (u 78), (u 79), (u 80), (u 81), (u 82), (u 83), (u 84), (u 85), (u 86), (u 87), (u 88), (u 89), (u 90), (u 91), (u 92), (u 93), (u 94), (u 95), (u 96), (u 97), (u 98), (u 99), (u 100), (u 101), (u 102), (u 103), (u 104), (u 105), (u 106), (u 107), (u 108), (u 109), (u 110), (u 111), .int .i64 (nm : Int), .int .i64 (k : Int), (u 114), (u 115), (u 116), (u 117), (u 118), (u 119), (u 120), (u 121), (u 122), (u 123), (u 124), (u 125), (u 126), (u 127), (u 128), (u 129), (u 130), (u 131), (u 132), (u 133), (u 134), (u 135), (u 136), (u 137), (u 138), (u 139), (u 140), (u 141), (u 142), (u 143), (u 144), (u 145), (u 146), (u 147), (u 148), (u 149), (u 150), (u 151), (u 152), (u 153), (u 154), (u 155), (u 156), (u 157), (u 158), (u 159), (u 160), (u 161), (u 162), (u 163), (u 164), (u 165), (u 166), (u 167), (u 168), (u 169), (u 170), (u 171), (u 172), (u 173), (u 174), (u 175)]) → Q .normal { tmps := t', defers := [] } (W.drewN nq)) (t' : Array Value) (ht : ∃ u : Nat → Value, t' = #[(u 0), (u 1), (u 2), (u 3), (u 4), (u 5), (u 6), (u 7), .bool false, .bool true, (u 10), (u 11), (u 12), (u 13), (u 14), .slice (some ⟨g1, o1, none⟩) nm c2, .int .i64 0, .pointer (some ⟨X, 0, none⟩), .bool false, .int .i64 (k : Int), (u 20), (u 21), (u 22), (u 23), (u 24), (u 25), (u 26), (u 27), (u 28), (u 29), (u 30), (u 31), (u 32), (u 33), (u 34), (u 35), (u 36), (u 37), (u 38), (u 39), (u 40), (u 41), (u 42), (u 43), (u 44), (u 45), (u 46), (u 47), (u 48), (u 49), (u 50), (u 51), (u 52), (u 53), (u 54), (u 55), (u 56), (u 57), (u 58), (u 59), (u 60), (u 61), (u 62), (u 63), (u 64), (u 65), (u 66), (u 67), (u 68), (u 69), (u 70), (u 71), (u 72), (u 73), (u 74), (u 75), (u 76), (u 77), (u 78), (u 79), (u 80), (u 81), (u 82), (u 83), (u 84), (u 85), (u 86), (u 87), (u 88), (u 89), (u 90), (u 91), (u 92), (u 93), (u 94), (u 95), (u 96), (u 97), (u 98), (u 99), (u 100), (u 101), (u 102), (u 103), (u 104), (u 105), (u 106), (u 107), (u 108), (u 109), (u 110), (u 111), .int .i64 (nm : Int), .int .i64 (k : Int), (u 114), (u 115), (u 116), (u 117), (u 118), (u 119), (u 120), (u 121), (u 122), (u 123), (u 124), (u 125), (u 126), (u 127), (u 128), (u 129), (u 130), (u 131), (u 132), (u 133), (u 134), (u 135), (u 136), (u 137), (u 138), (u 139), (u 140), (u 141), (u 142), (u 143), (u 144), (u 145), (u 146), (u 147), (u 148), (u 149), (u 150), (u 151), (u 152), (u 153), (u 154), (u 155), (u 156), (u 157), (u 158), (u 159), (u 160), (u 161), (u 162), (u 163), (u 164), (u 165), (u 166), (u 167), (u 168), (u 169), (u 170), (u 171), (u 172), (u 173), (u 174), (u 175)]) :
  fw22.wp Try.prog Q { tmps := t', defers := [] } W := by
 obtain ⟨u, rfl⟩ := ht
 conv => arg 2; whnf
 have j3 : (k : Int) < (nm : Int) := by omega
 have j4 : (0 : Int) ≤ (k : Int) := by omega
 subst h0 h1 h2
 have a3d : decide (y3 ≤ x3) = true := decide_eq_true h3
 have a4d : decide (x4 ≤ y4) = false := decide_eq_false h4
 have hQ' := hyd1 hQ
 clear hQ
 go_wp2_with (fail)
 go_quiet (fail)
 exact hQ'.out nq _ (frame_mkN _ _ (by kernel_rfl))
end Go.Proofs.Ytjdgkmcmgagkgaa
namespace Go.Proofs.Ytjdgkmcmgagkgaa
set_option maxRecDepth 100000
set_option maxHeartbeats 4000000
open Go.RowKit
set_option linter.unusedVariables false
set_option linter.unusedSimpArgs false
theorem few_c6 (g1 o1 nm c2 X k : Nat) (x0 x1 x2 x3 x4 y0 y1 y2 y3 y4 : Int) (W : World) (hlt : k < nm)
  (q0 : W.cell? ⟨g1, o1 + k * 5, none⟩ = some (.int .i64 y0)) (q1 : W.cell? ⟨g1, o1 + k * 5 + 1, none⟩ = some (.int .i64 y1)) (q2 : W.cell? ⟨g1, o1 + k * 5 + 2, none⟩ = some (.int .i64 y2)) (q3 : W.cell? ⟨g1, o1 + k * 5 + 3, none⟩ = some (.int .i64 y3)) (q4 : W.cell? ⟨g1, o1 + k * 5 + 4, none⟩ = some (.int .i64 y4))
  (d0 : W.cell? ⟨X, 0, none⟩ = some (.int .i64 x0)) (d1 : W.cell? ⟨X, 1, none⟩ = some (.int .i64 x1)) (d2 : W.cell? ⟨X, 2, none⟩ = some (.int .i64 x2)) (d3 : W.cell? ⟨X, 3, none⟩ = some (.int .i64 x3)) (d4 : W.cell? ⟨X, 4, none⟩ = some (.int .i64 x4)) (h0 : y0 = x0) (h1 : y1 = x1) (h2 : y2 = x2) (h3 : y3 ≤ x3) (h4 : x4 ≤ y4)
  (Q : Exit → Act → World → Prop) (hQ : ∀ (nq : Nat) (t' : Array Value), (∃ u : Nat → Value, t' = #[(u 0), (u 1), (u 2), (u 3), (u 4), (u 5), (u 6), (u 7), .bool false, .bool true, (u 10), (u 11), (u 12), (u 13), (u 14), .slice (some ⟨g1, o1, none⟩) nm c2, .int .i64 0, .pointer (some ⟨X, 0, none⟩), .bool true, .int .i64 (k : Int), (u 20), (u 21), (u 22), (u 23), (u 24), (u 25), (u 26), (u 27), (u 28), (u 29), (u 30), (u 31), (u 32), (u 33), (u 34), (u 35), (u 36), (u 37), (u 38), (u 39), (u 40), (u 41), (u 42), (u 43), (u 44), (u 45), (u 46), (u 47), (u 48), (u 49), (u 50), (u 51), (u 52), (u 53), (u 54), (u 55), (u 56), (u 57), (u 58), (u 59), (u 60), (u 61), (u 62), (u 63), (u 64), (u 65), (u 66), (u 67), (u 68), (u 69), (u 70), (u 71), (u 72), (u 73), (u 74), (u 75), (u 76), (u 77), (u 78), (u 79), (u 80), (u 81), (u 82), (u 83), (u 84), (u 85), (u 86), (u 87), (u 88), (u 89), (u 90), (u 91), (u 92), (u 93), (u 94), (u 95), (u 96), (u 97), (u 98), (u 99), (u 100), (u 101), (u 102), (u 103), (u 104), (u 105), (u 106), (u 107), (u 108), (u 109), (u 110), (u 111), .int .i64 (nm : Int), .int .i64 (k : Int), (u 114), (u 115), (u 116), (u 117), (u 118), (u 119), (u 120), (u 121), (u 122), (u 123), (u 124), (u 125), (u 126), (u 127), (u 128), (u 129), (u 130), (u 131), (u 132), (u 133), (u 134), (u 135), (u 136), (u 137), (u 138), (u 139), (u 140), (u 141), (u 142), (u 143), (u 144), (u 145), (u 146), (u 147), (u 148), (u 149), (u 150), (u 151), (u 152), (u 153), (u 154), (u 155), (u 156), (u 157), (u 158), (u 159), (u 160), (u 161), (u 162), (u 163), (u 164), (u 165), (u 166), (u 167), (u 168), (u 169), (u 170), (u 171), (u 172), (u 173), (u 174), (u 175)]) → Q .normal { tmps := t', defers := [] } (W.drewN nq)) (t' : Array Value) (ht : ∃ u : Nat → Value, t' = #[(u 0), (u 1), (u 2), (u 3), (u 4), (u 5), (u 6), (u 7), .bool false, .bool true, (u 10), (u 11), (u 12), (u 13), (u 14), .slice (some ⟨g1, o1, none⟩) nm c2, .int .i64 0, .pointer (some ⟨X, 0, none⟩), .bool false, .int .i64 (k : Int), (u 20), (u 21), (u 22), (u 23), (u 24), (u 25), (u 26), (u 27), (u 28), (u 29), (u 30), (u 31), (u 32), (u 33), (u 34), (u 35), (u 36), (u 37), (u 38), (u 39), (u 40), (u 41), (u 42), (u 43), (u 44), (u 45), (u 46), (u 47), (u 48), (u 49), (u 50), (u 51), (u 52), (u 53), (u 54), (u 55), (u 56), (u 57), (u 58), (u 59), (u 60), (u 61), (u 62), (u 63), (u 64), (u 65), (u 66), (u 67), (u 68), (u 69), (u 70), (u 71), (u 72), (u 73), (u 74), (u 75), (u 76), (u 77), (u 78), (u 79), (u 80), (u 81), (u 82), (u 83), (u 84), (u 85), (u 86), (u 87), (u 88), (u 89), (u 90), (u 91), (u 92), (u 93), (u 94), (u 95), (u 96), (u 97), (u 98), (u 99), (u 100), (u 101), (u 102), (u 103), (u 104), (u 105), (u 106), (u 107), (u 108), (u 109), (u 110), (u 111), .int .i64 (nm : Int), .int .i64 (k : Int), (u 114), (u 115), (u 116), (u 117), (u 118), (u 119), (u 120), (u 121), (u 122), (u 123), (u 124), (u 125), (u 126), (u 127), (u 128), (u 129), (u 130), (u 131), (u 132), (u 133), (u 134), (u 135), (u 136), (u 137), (u 138), (u 139), (u 140), (u 141), (u 142), (u 143), (u 144), (u 145), (u 146), (u 147), (u 148), (u 149), (u 150), (u 151), (u 152), (u 153), (u 154), (u 155), (u 156), (u 157), (u 158), (u 159), (u 160), (u 161), (u 162), (u 163), (u 164), (u 165), (u 166), (u 167), (u 168), (u 169), (u 170), (u 171), (u 172), (u 173), (u 174), (u 175)]) :
  fw22.wp Try.prog Q { tmps := t', defers := [] } W := by
 obtain ⟨u, rfl⟩ := ht
 conv => arg 2; whnf
 have j3 : (k : Int) < (nm : Int) := by omega
 have j4 : (0 : Int) ≤ (k : Int) := by omega
 subst h0 h1 h2
 have a3d : decide (y3 ≤ x3) = true := decide_eq_true h3
 have a4d : decide (x4 ≤ y4) = true := decide_eq_true h4
 have hQ' := hyd1 hQ
 clear hQ
 go_wp2_with (fail)
 go_quiet (fail)
 exact hQ'.out nq _ (frame_mkN _ _ (by kernel_rfl))
end Go.Proofs.Ytjdgkmcmgagkgaa
