/- The parts of the program's union: its two functions, slices.IndexFunc and slices.Clone of spans. slices.DeleteFunc of spans, by the program's first function. slices.SortFunc of spans, by the kit's contract. Printed by gen_sort.py. -/
import Derived.Test.YtphdalgaemefoaaGreatFindLaw
import Derived.Test.YtphdalgaemefoaaGreatRdTwin
import Derived.Test.YtphdalgaemefoaaGreatRdMapR
import Derived.Shelf.SlSortCmp.WholeK
import Derived.Shelf.SlSortCmp.NoneTotal
namespace Go.Proofs.YtphdalgaemefoaaGreat
set_option maxRecDepth 100000
set_option maxHeartbeats 1000000
open Go.RowKit
set_option linter.unusedVariables false
set_option linter.unusedSimpArgs false
theorem pf_union1 (s : Spn) (w : World) : Calls Tryz.prog 81 #[.agg #[.int .i64 s.1, .int .i64 s.2]] w fun e w' => e = .returned (.bool (!okS s)) ∧ Below w.heap.size w w' := by
 obtain ⟨a, b⟩ := s
 have hb : (!okS (a, b)) = decide (b < a) := by unfold okS; simp only; by_cases h : a ≤ b <;> simp [h] <;> omega
 rw [hb]
 dsimp only
 obtain ⟨W0, hW0, hb0, k0⟩ := newb w (.cells #[.int .i64 a, .int .i64 b] 101)
 obtain ⟨c0, c1⟩ := pc2 k0
 clear hb
 have ⟨hb0', k0'⟩ := hyd2 hb0 k0
 clear k0 hb0
 go_enter Tryz.func81, Tryz.ntmps81
 go_wp2
 go_ret
 exact ⟨rfl, hb0'.out⟩
theorem pf_idxF (v : Value) (L : List Spn) (w : World) (hv : SpnL w v L) :
  Calls Tryz.prog 86 #[v, .func (.func 81) #[] #[]] w fun e w' => ∃ r : Int, e = .returned (.int .i64 r) ∧ Below w.heap.size w w' ∧ ((r = -1 ∧ ∀ s ∈ L, okS s = true) ∨ ∃ (i : Nat) (hi : i < L.length), r = (i : Int) ∧ (∀ s ∈ L.take i, okS s = true) ∧ okS L[i] = false) := by
 obtain ⟨A1, c1, rfl, -⟩ := hv.slice
 have zL : L.length ≤ maxLen := by obtain ⟨_, _, _, h1, h2, _⟩ := hv; omega
 unfold maxLen at zL
 have hI0 : Below w.heap.size w w ∧ ∀ s ∈ L.take 0, okS s = true := ⟨Below.refl _ _, by simp⟩
 have ⟨hv', hI0'⟩ := hyd2 hv hI0
 clear hI0 hv
 go_enter Tryz.func86, Tryz.ntmps86
 go_wp2
 go_loopw [8] (fun kx wr => ∃ k : Nat, k ≤ L.length ∧ kx = .int .i64 (k : Int) ∧ Hid (Below w.heap.size w wr ∧ ∀ s ∈ L.take k, okS s = true)) (fun kx _ => L.length - (intOf kx).toNat)
 case atStart => exact ⟨0, Nat.zero_le _, rfl, hI0'⟩
 case round =>
  obtain ⟨k, hk, rfl, hI⟩ := hrel
  obtain ⟨hbw, hall⟩ := hI.out
  by_cases hlt : k < L.length
  ·obtain ⟨b1, o1, x1, heq, hbl1, g0, g1⟩ := SpnL.cells (hv'.out.le hbw) hlt
   injection heq with e1 e2 e3
   subst e1 e3
   clear e2
   have j1 : (k : Int) < (L.length : Int) := by omega
   have j2 : (0 : Int) ≤ (k : Int) := by omega
   have htk : L.take (k + 1) = L.take k ++ [L[k]] := List.take_succ_eq_append_getElem hlt
   obtain ⟨s, hs⟩ : ∃ s, L[k] = s := ⟨_, rfl⟩
   rw [hs] at g0 g1 htk
   have ku := pf_union1 s wr
   obtain ⟨B, hB⟩ : ∃ B, okS s = B := ⟨_, rfl⟩
   rw [hB] at ku
   have ⟨hI', hbw', hall', htk', ku', hs', hB'⟩ := hyd7 hI hbw hall htk ku hs hB
   clear hB hs ku htk hall hbw hI
   go_wp2_with (fail)
   go_at_call 81
   refine ku'.out.mono ?_
   rintro e W2 ⟨rfl, hb2⟩
   have hbw2 := bel_set hbw'.out hb2
   cases B with
   | false =>
    have hfin : ∃ (i : Nat) (hi : i < L.length), (k : Int) = (i : Int) ∧ (∀ s ∈ L.take i, okS s = true) ∧ okS L[i] = false := ⟨k, hlt, rfl, hall'.out, by rw [hs'.out]; exact hB'.out⟩
    have ⟨hb2', hbw2', hfin'⟩ := hyd3 hb2 hbw2 hfin
    clear hfin hbw2 hb2
    go_wp2
    go_ret
    exact ⟨_, rfl, hbw2'.out, .inr hfin'.out⟩
   | true =>
    have hN : Below w.heap.size w W2 ∧ ∀ s ∈ L.take (k + 1), okS s = true := ⟨hbw2, fun x hx => by
     rw [htk'.out] at hx
     rcases List.mem_append.1 hx with h | h
     ·exact hall'.out x h
     ·rw [List.mem_singleton.1 h]; exact hB'.out⟩
    have ⟨hb2', hbw2', hN'⟩ := hyd3 hb2 hbw2 hN
    clear hN hbw2 hb2
    go_wp2
    go_roundw
    case rel => exact ⟨k + 1, by omega, by go_num, hN'⟩
    case measure => simp [intOf]; omega
  ·obtain rfl : k = L.length := by omega
   rw [List.take_length] at hall
   have ⟨hI', hbw', hall'⟩ := hyd3 hI hbw hall
   clear hall hbw hI
   go_wp2
   go_ret
   exact ⟨_, rfl, hbw'.out, .inl ⟨rfl, hall'.out⟩⟩
end Go.Proofs.YtphdalgaemefoaaGreat
namespace Go.Proofs.YtphdalgaemefoaaGreat
set_option maxRecDepth 100000
set_option maxHeartbeats 1000000
open Go.RowKit
set_option linter.unusedVariables false
set_option linter.unusedSimpArgs false
theorem run_clear_row {P : Program} (w : World) (t e ty : TypeId) (z : Value) (ht : P.underlying t = some (.slice e)) (hv : ∀ w, (zeroValue e).run P w = .ok z w) (b o n c : Nat) (hn : 0 < n)
  (hc : ∀ j, j < (Builtin.zeroCells z.cells n).toList.length → (w.cell? ⟨b, o + j, none⟩).isSome = true) (hf : ∀ j, j < (Builtin.zeroCells z.cells n).toList.length → w.frozen? ⟨b, o + j, none⟩ = false) (h1 : ∀ v ∈ (Builtin.zeroCells z.cells n).toList, v.oneCell' = true) :
  (Builtin.clear_ #[t] ty #[.slice (some ⟨b, o, none⟩) n c]).run P w = .ok (.tuple #[]) (w.setCells b o (Builtin.zeroCells z.cells n).toList) := by
 have hst := run_storeCells_cells (P := P) b o (Builtin.zeroCells z.cells n).toList 0 w (by simpa using hc) (by simpa using hf) h1
 simp only [Nat.add_zero] at hst
 obtain ⟨m, rfl⟩ : ∃ m, n = m + 1 := ⟨n - 1, by omega⟩
 simp [Builtin.clear_, run_underlying ht, hv, hst]
theorem own_tail {w : World} {base : Nat} {e : TypeId} {size g n cap : Nat} {xs : List Value} (h : w.ownsRow base e size (.slice (some ⟨g, 0, none⟩) n cap) n xs) {k : Nat} (hk : n * size ≤ k) (u : Value) : (w.setCell ⟨g, k, none⟩ u).ownsRow base e size (.slice (some ⟨g, 0, none⟩) n cap) n xs := by
 have h2 := (h.stored k u).1
 rwa [List.set_eq_of_length_le (by rw [h.1]; exact hk)] at h2
theorem own_tails {base : Nat} {e : TypeId} {size g n cap : Nat} {xs : List Value} : ∀ (vs : List Value) (k : Nat) (w : World), n * size ≤ k → base ≤ g → w.ownsRow base e size (.slice (some ⟨g, 0, none⟩) n cap) n xs → (w.setCells g k vs).ownsRow base e size (.slice (some ⟨g, 0, none⟩) n cap) n xs ∧ Below base w (w.setCells g k vs)
 | [], _, _, _, _, h => ⟨h, Below.refl _ _⟩
 | v :: r, k, w, hk, hb, h => by
  obtain ⟨a, b⟩ := own_tails r (k + 1) _ (by omega) hb (own_tail h hk v)
  exact ⟨a, ((Below.refl base w).setCell (p := ⟨g, k, none⟩) hb v).trans b⟩
theorem own_front {w : World} {base : Nat} {e : TypeId} {g n cap i : Nat} {Z : List Spn} (h : w.ownsRow base e 2 (.slice (some ⟨g, 0, none⟩) n cap) n (Z.flatMap spnEnc)) (hZ : Z.length = n) (hi : i ≤ n) : w.ownsRow base e 2 (.slice (some ⟨g, 0, none⟩) i cap) i ((Z.take i).flatMap spnEnc) := by
 have hfl : ∀ L : List Spn, (L.flatMap spnEnc).length = L.length * 2 := fun L => flat_length (enc := spnEnc) (k := 2) (fun _ => rfl) L
 refine ⟨by rw [hfl, List.length_take]; congr 1; omega, ?_⟩
 rcases h.2 with ⟨h', -⟩ | ⟨g', cap', cur, h', hb, hg, hnc, hcm, hcs, htk⟩
 ·simp at h'
 ·simp only [Value.slice.injEq, Option.some.injEq, Addr.mk.injEq, and_true, true_and] at h'
  obtain ⟨rfl, rfl⟩ := h'
  refine .inr ⟨g, cap, cur, rfl, hb, hg, by omega, hcm, hcs, ?_⟩
  have h2 : (Z.flatMap spnEnc).take (i * 2) = (Z.take i).flatMap spnEnc := by
   conv => lhs; rw [← List.take_append_drop i Z, List.flatMap_append]
   rw [List.take_append_of_le_length (by rw [hfl, List.length_take]; omega), List.take_of_length_le (by rw [hfl, List.length_take]; omega)]
  rw [← h2, ← htk, List.take_take]
  congr 1
  omega
theorem own_spn {w : World} {base : Nat} {e : TypeId} {g n cap : Nat} {Z : List Spn} (h : w.ownsRow base e 2 (.slice (some ⟨g, 0, none⟩) n cap) n (Z.flatMap spnEnc)) (hZ : Z.length = n) {j : Nat} (hj : j < Z.length) : w.cell? ⟨g, j * 2, none⟩ = some (.int .i64 Z[j].1) ∧ w.cell? ⟨g, j * 2 + 1, none⟩ = some (.int .i64 Z[j].2) :=
 ⟨by rw [h.cellAt (j * 2) (by omega)]; exact flat_get (enc := spnEnc) (k := 2) (fun _ => rfl) Z j hj 0 _ rfl, by rw [h.cellAt (j * 2 + 1) (by omega)]; exact flat_get (enc := spnEnc) (k := 2) (fun _ => rfl) Z j hj 1 _ rfl⟩
theorem own_write {w : World} {base : Nat} {e : TypeId} {g n cap : Nat} {Z : List Spn} (h : w.ownsRow base e 2 (.slice (some ⟨g, 0, none⟩) n cap) n (Z.flatMap spnEnc)) {i : Nat} (hi : i < Z.length) (s : Spn) : ((w.setCell ⟨g, i * 2, none⟩ (.int .i64 s.1)).setCell ⟨g, i * 2 + 1, none⟩ (.int .i64 s.2)).ownsRow base e 2 (.slice (some ⟨g, 0, none⟩) n cap) n ((Z.set i s).flatMap spnEnc) := by
 rw [← flat_set2 Z i s hi]
 exact (((h.stored (i * 2) (.int .i64 s.1)).1).stored (i * 2 + 1) (.int .i64 s.2)).1
theorem write_below {w : World} {base g : Nat} (hb : base ≤ g) (k : Nat) (u v : Value) : Below base w ((w.setCell ⟨g, k, none⟩ u).setCell ⟨g, k + 1, none⟩ v) := ((Below.refl base w).setCell (p := ⟨g, k, none⟩) hb u).setCell (p := ⟨g, k + 1, none⟩) hb v
def DfI (w : World) (base g cap : Nat) (L : List Spn) (i j : Nat) (W : World) : Prop := ∃ Z : List Spn, Z.length = L.length ∧ Below base w W ∧ W.ownsRow base 101 2 (.slice (some ⟨g, 0, none⟩) L.length cap) L.length (Z.flatMap spnEnc) ∧ Z.take i = (L.take j).filter okS ∧ Z.drop j = L.drop j
theorem zeroSp (w : World) : (zeroValue 101).run Tryz.prog w = .ok (.agg #[.int .i64 0, .int .i64 0]) w := by kernel_rfl
theorem pf_delF (v : Value) (L : List Spn) (w : World) (base : Nat) (hown : w.ownsRow base 101 2 v L.length (L.flatMap spnEnc)) (h0 : 0 < L.length) (hbase : base ≤ w.heap.size) :
  Calls Tryz.prog 79 #[v, .func (.func 81) #[] #[]] w fun e w' => ∃ v', e = .returned v' ∧ Below base w w' ∧ w'.ownsRow base 101 2 v' (L.filter okS).length ((L.filter okS).flatMap spnEnc) := by
 obtain ⟨g, cap, rfl, hgb, hgl, hLc, hLm⟩ : ∃ g cap, v = .slice (some ⟨g, 0, none⟩) L.length cap ∧ base ≤ g ∧ g < w.heap.size ∧ L.length ≤ cap ∧ cap ≤ maxLen := by
  rcases hown.2 with ⟨-, e⟩ | ⟨g, cap, cur, rfl, hb, hg, hnc, hcm, -⟩
  ·omega
  ·exact ⟨g, cap, rfl, hb, gsl hg, hnc, hcm⟩
 unfold maxLen at hLm
 have hz := zeroSp
 have hkx := pf_idxF (.slice (some ⟨g, 0, none⟩) L.length cap) L w (SV.of_own (base := base) (e := 101) (fun _ => rfl) hown)
 have ⟨hown', hkx', hz'⟩ := hyd3 hown hkx hz
 clear hz hkx hown
 go_enter Tryz.func79, Tryz.ntmps79
 go_wp2_with (fail)
 go_at_call 86
 refine hkx'.out.mono ?_
 rintro e W1 ⟨r, rfl, hb1, hr⟩
 have hB1 : Below base w W1 := hb1.mono hbase
 have ho1 := own_below hown'.out hb1
 rcases hr with ⟨rfl, hall⟩ | ⟨i0, hi0, rfl, hall, hbad⟩
 ·have hfil : L.filter okS = L := List.filter_eq_self.2 hall
  have ⟨hb1', hB1', ho1', hall', hfil'⟩ := hyd5 hb1 hB1 ho1 hall hfil
  clear hfil hall ho1 hB1 hb1
  go_wp2
  go_ret
  exact ⟨_, rfl, hB1'.out, by rw [hfil'.out]; exact ho1'.out⟩
 ·have hI0 : DfI w base g cap L i0 (i0 + 1) W1 := ⟨L, rfl, hB1, ho1, by rw [List.take_succ_eq_append_getElem hi0, List.filter_append, List.filter_eq_self.2 hall]; simp [hbad], rfl⟩
  have hne : ¬ (i0 : Int) = -1 := by omega
  have hneb : ((i0 : Int) == -1) = false := by simp
  have ⟨hb1', hB1', ho1', hall', hbad', hI0'⟩ := hyd6 hb1 hB1 ho1 hall hbad hI0
  clear hI0 hbad hall ho1 hB1 hb1
  go_wp2_with (fail)
  go_loopw [6, 5] (fun jx ix wr => ∃ i j : Nat, i < j ∧ j ≤ L.length ∧ jx = .int .i64 (j : Int) ∧ ix = .int .i64 (i : Int) ∧ Hid (DfI w base g cap L i j wr)) (fun jx _ _ => L.length - (intOf jx).toNat)
  case atStart => exact ⟨i0, i0 + 1, by omega, by omega, by go_num, rfl, hI0'⟩
  case round =>
   obtain ⟨i, j, hij, hj, rfl, rfl, hI⟩ := hrel
   obtain ⟨Z, hZ, hbw, ho, htk, hdr⟩ := hI.out
   by_cases hlt : j < L.length
   ·have hjZ : j < Z.length := by omega
    have hiZ : i < Z.length := by omega
    have hZL : Z[j] = L[j] := by
     have h1 := List.drop_eq_getElem_cons hjZ
     rw [hdr, List.drop_eq_getElem_cons hlt] at h1
     injection h1 with h1 _
     exact h1.symm
    obtain ⟨q0, q1⟩ := own_spn ho hZ hjZ
    rw [hZL] at q0 q1
    have htk1 : L.take (j + 1) = L.take j ++ [L[j]] := List.take_succ_eq_append_getElem hlt
    obtain ⟨⟨a, b⟩, hs⟩ : ∃ s, L[j] = s := ⟨_, rfl⟩
    rw [hs] at q0 q1 htk1
    dsimp only at q0 q1
    have hgw : g < wr.heap.size := (ho.lt g rfl).2
    have hbz : base ≤ wr.heap.size := by omega
    obtain ⟨W2, hW2, hb2, k2⟩ := newb wr (.cells #[.int .i64 a, .int .i64 b] 101)
    obtain ⟨d0, d1⟩ := pc2 k2
    have ku := pf_union1 (a, b) W2
    obtain ⟨B, hB⟩ : ∃ B, okS (a, b) = B := ⟨_, rfl⟩
    rw [hB] at ku
    dsimp only at ku
    have j1 : (j : Int) < (L.length : Int) := by omega
    have j2 : (0 : Int) ≤ (j : Int) := by omega
    have j3 : (i : Int) < (L.length : Int) := by omega
    have j4 : (0 : Int) ≤ (i : Int) := by omega
    have ⟨hI', hbw', ho', htk', hdr', hZL', htk1', hs'⟩ := hyd8 hI hbw ho htk hdr hZL htk1 hs
    have ⟨hb2', k2', ku', hB'⟩ := hyd4 hb2 k2 ku hB
    clear hB ku k2 hb2 hs htk1 hZL hdr htk ho hbw hI
    go_wp2_with (fail)
    clear hW2
    go_at_call 81
    refine ku'.out.mono ?_
    rintro e W3 ⟨rfl, hb3⟩
    have hb23 := bel_set hb2'.out hb3
    have k3 := blk hb3 k2'.out
    have hbw3 : Below base w W3 := hbw'.out.trans (hb23.mono hbz)
    have ho3 := own_below ho'.out hb23
    obtain ⟨r0, r1⟩ := own_spn ho3 hZ hiZ
    have fr0 := ho3.frozenAt (i * 2)
    have fr1 := ho3.frozenAt (i * 2 + 1)
    clear d0 d1 q0 q1
    obtain ⟨d0, d1⟩ := pc2 k3
    cases B with
    | true =>
     have hZi : i < (Z.take j).length := by rw [List.length_take]; omega
     have hN : DfI w base g cap L (i + 1) (j + 1) ((W3.setCell ⟨g, i * 2, none⟩ (.int .i64 a)).setCell ⟨g, i * 2 + 1, none⟩ (.int .i64 b)) := ⟨Z.set i (a, b), by rw [List.length_set]; exact hZ, hbw3.trans (write_below hgb _ _ _), own_write ho3 hiZ (a, b), by rw [List.take_succ_eq_append_getElem (by rw [List.length_set]; exact hiZ), List.getElem_set_self, List.take_set_of_le (Nat.le_refl _), htk'.out, htk1'.out, List.filter_append]; simp [hB'.out], by rw [List.drop_set_of_lt (by omega)]; have h := congrArg List.tail hdr'.out; simpa using h⟩
     have ⟨hb3', hb23', k3', hbw3', ho3', hN'⟩ := hyd6 hb3 hb23 k3 hbw3 ho3 hN
     clear hN ho3 hbw3 k3 hb23 hb3
     go_wp2
     go_roundw
     case rel => exact ⟨i + 1, j + 1, by omega, by omega, by go_num, by go_num, hN'⟩
     case measure => simp [intOf]; omega
    | false =>
     have hN : DfI w base g cap L i (j + 1) W3 := ⟨Z, hZ, hbw3, ho3, by rw [htk'.out, htk1'.out, List.filter_append]; simp [hB'.out], by have h := congrArg List.tail hdr'.out; simpa using h⟩
     have ⟨hb3', hb23', k3', hbw3', ho3', hN'⟩ := hyd6 hb3 hb23 k3 hbw3 ho3 hN
     clear hN ho3 hbw3 k3 hb23 hb3
     go_wp2
     go_roundw
     case rel => exact ⟨i, j + 1, by omega, by omega, by go_num, rfl, hN'⟩
     case measure => simp [intOf]; omega
   ·obtain rfl : j = L.length := by omega
    rw [List.take_length] at htk
    have hfl : (L.filter okS).length = i := by rw [← htk, List.length_take]; omega
    have hfr := own_front ho hZ (by omega : i ≤ L.length)
    rw [htk] at hfr
    obtain ⟨m, hm⟩ : ∃ m, L.length - i = m := ⟨_, rfl⟩
    have hzl : (Builtin.zeroCells (Value.agg #[.int .i64 0, .int .i64 0]).cells m).toList.length = m * 2 := by rw [Array.length_toList, size_zeroCells]; rfl
    have hz1 : ∀ v ∈ (Builtin.zeroCells (Value.agg #[.int .i64 0, .int .i64 0]).cells m).toList, v.oneCell' = true := fun v hv => by
     simp only [Builtin.zeroCells, Array.toList_map, List.mem_map] at hv
     obtain ⟨k, -, rfl⟩ := hv
     have hk2 : k % 2 < 2 := Nat.mod_lt _ (by decide)
     show ((#[Value.int .i64 0, Value.int .i64 0])[k % 2]!).oneCell' = true
     have hk3 : k % 2 = 0 ∨ k % 2 = 1 := by omega
     rcases hk3 with h | h <;> rw [h] <;> rfl
    have hcl : ∀ ty, (Builtin.clear_ #[98] ty #[.slice (some ⟨g, i * 2, none⟩) m (cap - i)]).run Tryz.prog wr = .ok (.tuple #[]) (wr.setCells g (i * 2) (Builtin.zeroCells (Value.agg #[.int .i64 0, .int .i64 0]).cells m).toList) := fun ty =>
     run_clear_row wr 98 101 ty (.agg #[.int .i64 0, .int .i64 0]) Tryz.underlying98 hz'.out g (i * 2) m (cap - i) (by omega) (fun j hj => by
      rw [hzl] at hj
      rw [ho.cellAt (i * 2 + j) (by omega)]
      have hfz : (Z.flatMap spnEnc).length = Z.length * 2 := flat_length (enc := spnEnc) (k := 2) (fun _ => rfl) Z
      rw [List.getElem?_eq_getElem (by omega)]; rfl) (fun j _ => ho.frozenAt _) hz1
    obtain ⟨o9, b9⟩ := own_tails (Builtin.zeroCells (Value.agg #[.int .i64 0, .int .i64 0]).cells m).toList (i * 2) wr (Nat.le_refl _) hgb hfr
    obtain ⟨W9, hW9⟩ : ∃ V, wr.setCells g (i * 2) (Builtin.zeroCells (Value.agg #[.int .i64 0, .int .i64 0]).cells m).toList = V := ⟨_, rfl⟩
    rw [hW9] at hcl o9 b9
    have hB9 : Below base w W9 := hbw.trans b9
    have o10 : W9.ownsRow base 101 2 (.slice (some ⟨g, 0, none⟩) i cap) (L.filter okS).length ((L.filter okS).flatMap spnEnc) := by rw [hfl]; exact o9
    clear hW9 hz1 hzl
    have j1 : (i : Int) ≤ (L.length : Int) := by omega
    have j2 : (0 : Int) ≤ (i : Int) := by omega
    have j3 : (i : Int) ≤ (cap : Int) := by omega
    have ⟨hI', hbw', ho', htk', hdr', hfl', hfr', o9'⟩ := hyd8 hI hbw ho htk hdr hfl hfr o9
    have ⟨b9', hB9', o10'⟩ := hyd3 b9 hB9 o10
    clear o10 hB9 b9 o9 hfr hfl hdr htk ho hbw hI
    go_wp2_with (fail)
    go_ret
    exact ⟨_, rfl, hB9'.out, o10'.out⟩
end Go.Proofs.YtphdalgaemefoaaGreat
namespace Go.Proofs.YtphdalgaemefoaaGreat
set_option maxRecDepth 100000
set_option maxHeartbeats 1000000
open Go.RowKit Go.Shelf Go.Lib
open Go.Sort hiding Below
set_option linter.unusedVariables false
set_option linter.unusedSimpArgs false
abbrev BSp := { s : Spn // (-2000000000000 ≤ s.1 ∧ s.1 ≤ 2000000000000) ∧ (-2000000000000 ≤ s.2 ∧ s.2 ≤ 2000000000000) }
instance : Inhabited BSp := ⟨⟨(0, 0), by decide⟩⟩
def bEnc (s : BSp) : List Value := spnEnc s.1
def cmpSp (x y : BSp) : Int := x.1.1 - y.1.1
theorem ltSp (x y : BSp) : ltOf cmpSp x y = decide (x.1.1 < y.1.1) := by unfold ltOf cmpSp; congr 1; apply propext; omega
theorem swoSp : Go.Sort.SWO (ltOf cmpSp) where
 irrefl x := by rw [ltSp]; simp
 trans x y z h1 h2 := by rw [ltSp] at *; simp at *; omega
 ntrans x y z h1 h2 := by rw [ltSp] at *; simp at *; omega
theorem bEnc_get (L : List BSp) : ∀ t, t < L.length * 2 → (L.flatMap bEnc)[t]? = some ((bEnc (L[t / 2]!))[t % 2]!) := by
 induction L with
 | nil => intro t h; simp at h
 | cons x xs ih =>
  intro t h
  rw [List.flatMap_cons]
  by_cases ht : t < 2
  ·rw [List.getElem?_append_left (by simpa [bEnc, spnEnc] using ht)]
   have e1 : t / 2 = 0 := by omega
   have e2 : t % 2 = t := by omega
   rw [e1, e2]
   simp only [List.getElem!_cons_zero]
   rw [List.getElem?_eq_getElem (by simpa [bEnc, spnEnc] using ht), getElem!_pos _ t (by simpa [bEnc, spnEnc] using ht)]
  ·rw [List.getElem?_append_right (by simp [bEnc, spnEnc]; omega)]
   have e0 : (bEnc x).length = 2 := rfl
   rw [e0, ih (t - 2) (by simp at h; omega)]
   have e1 : t / 2 = (t - 2) / 2 + 1 := by omega
   have e2 : (t - 2) % 2 = t % 2 := by omega
   rw [e1, e2]
   simp
theorem bEnc_len (L : List BSp) : (L.flatMap bEnc).length = L.length * 2 := flat_length (enc := bEnc) (k := 2) (fun _ => rfl) L
theorem flat_sp (L : List BSp) : (flatK bEnc 2 L.toArray).toList = L.flatMap bEnc := by
 apply List.ext_getElem?
 intro t
 by_cases h : t < L.length * 2
 ·rw [bEnc_get L t h]
  have hs : t < (flatK bEnc 2 L.toArray).toList.length := by simp; omega
  rw [List.getElem?_eq_getElem hs]
  have := get_flatK bEnc 2 L.toArray t (by simpa using h)
  rw [getElem!_pos _ t (by simp; omega)] at this
  simp only [Array.getElem_toList]
  rw [this]
  simp
 ·rw [List.getElem?_eq_none (by simp; omega), List.getElem?_eq_none (by rw [bEnc_len]; omega)]
theorem own_holdsSp {W : World} {base e g c : Nat} {L : List BSp} (h : W.ownsRow base e 2 (.slice (some ⟨g, 0, none⟩) L.length c) L.length (L.flatMap bEnc)) : HoldsK bEnc 2 W g 0 L.toArray := by
 intro j hj
 have hj' : j < L.length * 2 := by simpa using hj
 rw [Nat.zero_add]
 refine ⟨?_, h.frozenAt j⟩
 rw [h.cellAt j hj']
 rw [bEnc_get L j hj', get_flatK bEnc 2 L.toArray j (by simpa using hj')]
 simp
theorem own_sortedSp {W : World} {base e g c : Nat} {L : List BSp} (h : W.ownsRow base e 2 (.slice (some ⟨g, 0, none⟩) L.length c) L.length (L.flatMap bEnc)) (d : Array BSp) (hd : d.size = L.length) (n : Nat) (os : Array Obj) :
  (sortWorldK bEnc 2 W g 0 n d os).ownsRow base e 2 (.slice (some ⟨g, 0, none⟩) L.length c) L.length (d.toList.flatMap bEnc) ∧ W.heap.size ≤ (sortWorldK bEnc 2 W g 0 n d os).heap.size ∧
   ∀ k, k < W.heap.size → k ≠ g → (sortWorldK bEnc 2 W g 0 n d os).heap[k]? = W.heap[k]? := by
 have hz : (putRowK bEnc 2 (Sort.ahead W n) g 0 d).heap.size = W.heap.size := by rw [size_putRowK]; rfl
 refine ⟨⟨by rw [bEnc_len]; simp [hd], ?_⟩, ?_, ?_⟩
 ·rcases h.2 with ⟨h', _⟩ | ⟨g', cap, cur, hv, hb, hh, hnc, hcm, hs, htake⟩
  ·simp at h'
  ·injection hv with h1 _ h3
   injection h1 with h1
   injection h1 with h1
   subst h1 h3
   refine .inr ⟨g, c, putCells id 0 (flatK bEnc 2 d) cur, rfl, hb, ?_, hnc, hcm, by simp [putCells, hs], ?_⟩
   ·unfold sortWorldK
    rw [heap_grow_old _ _ (by rw [hz]; exact (gsl hh))]
    show ((Sort.ahead W n).heap.modify g _)[g]? = _
    rw [Array.getElem?_modify, if_pos rfl]
    show Option.map _ (W.heap[g]?) = _
    rw [hh]
    rfl
   ·have hfl : (flatK bEnc 2 d).toList = d.toList.flatMap bEnc := by have := flat_sp d.toList; simpa using this
    rw [← hfl]
    apply List.ext_getElem?
    intro t
    rw [List.getElem?_take]
    by_cases ht : t < L.length * 2
    ·rw [if_pos ht]
     have htc : t < cur.size := by rw [hs]; exact Nat.lt_of_lt_of_le ht (Nat.mul_le_mul_right 2 hnc)
     have htd : t < d.size * 2 := by rw [hd]; exact ht
     simp only [Array.getElem?_toList]
     unfold putCells
     rw [Array.getElem?_mapIdx, Array.getElem?_eq_getElem htc, Option.map_some]
     rw [if_pos ⟨Nat.zero_le _, by simp; omega⟩, Nat.sub_zero]
     rw [Array.getElem?_eq_getElem (by simp; omega), getElem!_pos _ t (by simp; omega)]
     rfl
    ·rw [if_neg ht, List.getElem?_eq_none (by simp [hd]; omega)]
 ·unfold sortWorldK
  rw [size_grow, hz]
  omega
 ·intro k hk hkg
  unfold sortWorldK
  rw [heap_grow_old _ _ (by rw [hz]; exact hk)]
  show ((Sort.ahead W n).heap.modify g _)[k]? = _
  rw [Array.getElem?_modify, if_neg (Ne.symm hkg)]
  rfl
theorem bsp_of {D : List Spn} (h : SpB D) : ∃ L : List BSp, L.map (·.1) = D := ⟨D.attach.map fun s => ⟨s.1, h s.1 s.2⟩, by rw [List.map_map]; exact List.attach_map_subtype_val D⟩
theorem bsp_flat (L : List BSp) : L.flatMap bEnc = (L.map (·.1)).flatMap spnEnc := by rw [List.flatMap_map]; rfl
def spRen : Ren := ⟨fun x => if x = 6 then 82 else if x = 14 then 87 else if x = 15 then 88 else if x = 20 then 92 else if x = 21 then 93 else if x = 22 then 94 else if x = 23 then 95 else if x = 24 then 96 else if x = 25 then 97 else if x = 26 then 98 else if x = 27 then 99 else if x = 28 then 100 else if x = 29 then 101 else if x = 46 then 102 else if x = 47 then 103 else if x = 48 then 104 else if x = 49 then 105 else if x = 50 then 106 else if x = 57 then 107 else x, fun x => if x = 0 then 0 else if x = 3 then 3 else if x = 4 then 4 else if x = 5 then 5 else if x = 9 then 9 else if x = 22 then 98 else if x = 24 then 101 else if x = 25 then 129 else if x = 39 then 130 else if x = 45 then 143 else if x = 46 then 144 else if x = 50 then 148 else if x = 53 then 136 else if x = 55 then 139 else if x = 66 then 152 else if x = 70 then 156 else if x = 76 then 158 else if x = 77 then 159 else x, fun x => x⟩
theorem spLay : SlLaysF0.n6 Tryz.prog spRen where
 mixed := by kernel_rfl
 f6 := ⟨(Tryz.f82).name, by kernel_rfl, by kernel_rfl⟩
 f14 := ⟨(Tryz.f87).name, by kernel_rfl, by kernel_rfl⟩
 f15 := by kernel_rfl
 f20 := ⟨(Tryz.f92).name, by kernel_rfl, by kernel_rfl⟩
 f21 := ⟨(Tryz.f93).name, by kernel_rfl, by kernel_rfl⟩
 f22 := ⟨(Tryz.f94).name, by kernel_rfl, by kernel_rfl⟩
 f23 := ⟨(Tryz.f95).name, by kernel_rfl, by kernel_rfl⟩
 f24 := ⟨(Tryz.f96).name, by kernel_rfl, by kernel_rfl⟩
 f25 := ⟨(Tryz.f97).name, by kernel_rfl, by kernel_rfl⟩
 f26 := ⟨(Tryz.f98).name, by kernel_rfl, by kernel_rfl⟩
 f27 := ⟨(Tryz.f99).name, by kernel_rfl, by kernel_rfl⟩
 f28 := by kernel_rfl
 f29 := by kernel_rfl
 f46 := ⟨(Tryz.f102).name, by kernel_rfl, by kernel_rfl⟩
 f47 := by kernel_rfl
 f48 := by kernel_rfl
 f49 := ⟨(Tryz.f105).name, by kernel_rfl, by kernel_rfl⟩
 f50 := ⟨(Tryz.f106).name, by kernel_rfl, by kernel_rfl⟩
 f57 := ⟨(Tryz.f107).name, by kernel_rfl, by kernel_rfl⟩
 t0 := by kernel_rfl
 a0 := fun _ => by kernel_rfl
 z0 := fun _ => by kernel_rfl
 v0 := fun _ => by kernel_rfl
 t3 := by kernel_rfl
 a3 := fun _ => by kernel_rfl
 z3 := fun _ => by kernel_rfl
 v3 := fun _ => by kernel_rfl
 t4 := by kernel_rfl
 a4 := fun _ => by kernel_rfl
 z4 := fun _ => by kernel_rfl
 v4 := fun _ => by kernel_rfl
 t5 := by kernel_rfl
 a5 := fun _ => by kernel_rfl
 z5 := fun _ => by kernel_rfl
 v5 := fun _ => by kernel_rfl
 t9 := by kernel_rfl
 a9 := fun _ => by kernel_rfl
 z9 := fun _ => by kernel_rfl
 v9 := fun _ => by kernel_rfl
 t22 := by kernel_rfl
 a22 := fun _ => by kernel_rfl
 z22 := fun _ => by kernel_rfl
 v22 := fun _ => by kernel_rfl
 t25 := by kernel_rfl
 a25 := fun _ => by kernel_rfl
 z25 := fun _ => by kernel_rfl
 v25 := fun _ => by kernel_rfl
 t39 := by kernel_rfl
 a39 := fun _ => by kernel_rfl
 z39 := fun _ => by kernel_rfl
 v39 := fun _ => by kernel_rfl
 t45 := by kernel_rfl
 a45 := fun _ => by kernel_rfl
 z45 := fun _ => by kernel_rfl
 v45 := fun _ => by kernel_rfl
 t46 := by kernel_rfl
 a46 := fun _ => by kernel_rfl
 z46 := fun _ => by kernel_rfl
 v46 := fun _ => by kernel_rfl
 t50 := by kernel_rfl
 a50 := fun _ => by kernel_rfl
 z50 := fun _ => by kernel_rfl
 v50 := fun _ => by kernel_rfl
 t53 := by kernel_rfl
 a53 := fun _ => by kernel_rfl
 z53 := fun _ => by kernel_rfl
 v53 := fun _ => by kernel_rfl
 t55 := by kernel_rfl
 a55 := fun _ => by kernel_rfl
 z55 := fun _ => by kernel_rfl
 v55 := fun _ => by kernel_rfl
 t66 := by kernel_rfl
 a66 := fun _ => by kernel_rfl
 z66 := fun _ => by kernel_rfl
 v66 := fun _ => by kernel_rfl
 t70 := by kernel_rfl
 a70 := fun _ => by kernel_rfl
 z70 := fun _ => by kernel_rfl
 v70 := fun _ => by kernel_rfl
 t76 := by kernel_rfl
 a76 := fun _ => by kernel_rfl
 z76 := fun _ => by kernel_rfl
 v76 := fun _ => by kernel_rfl
 t77 := by kernel_rfl
 a77 := fun _ => by kernel_rfl
 z77 := fun _ => by kernel_rfl
 v77 := fun _ => by kernel_rfl
theorem cmp_laysSp (x y : BSp) (W : World) :
  Calls Tryz.prog 83 #[.agg (bEnc x).toArray, .agg (bEnc y).toArray] W fun e w' => e = .returned (.int .i64 (cmpSp x y)) ∧ ∃ q os', w' = grow (W.drewN q) os' := by
 obtain ⟨⟨x1, x2⟩, hx⟩ := x
 obtain ⟨⟨y1, y2⟩, hy⟩ := y
 dsimp only at hx hy
 show Calls _ _ #[.agg #[.int .i64 x1, .int .i64 x2], .agg #[.int .i64 y1, .int .i64 y2]] W _
 show Calls _ _ _ W fun e w' => e = .returned (.int .i64 (x1 - y1)) ∧ _
 go_enter Tryz.func83, Tryz.ntmps83
 go_wp2
 go_ret
 exact ⟨rfl, 0, #[_, _], by rw [alloc_eq_grow, alloc_eq_grow, grow_grow]; rfl⟩
theorem pf_sortSp (W : World) (base : Nat) (v : Value) (D : List Spn) (ho : W.ownsRow base 101 2 v D.length (D.flatMap spnEnc)) (hbs : base ≤ W.heap.size) (hl : D.length ≤ 10000) (hb : SpB D) :
  Calls Tryz.prog 82 #[v, .func (.func 83) #[] #[]] W fun e w' => e = .returned (.tuple #[]) ∧ Below base W w' ∧ ∃ D' : List Spn, D'.Perm D ∧ D'.Pairwise (fun s t => s.1 ≤ t.1) ∧ w'.ownsRow base 101 2 v D'.length (D'.flatMap spnEnc) := by
 rcases ho.2 with ⟨rfl, h0⟩ | ⟨g, cap, cur, rfl, hg, hh, _⟩
 ·have hD0 : D = [] := List.eq_nil_of_length_eq_zero h0
  subst hD0
  refine Calls.mono (AnyF.slices_SortFunc_none spLay none 0 _ W) ?_
  rintro e w' ⟨rfl, rfl⟩
  exact ⟨rfl, Below.refl _ _, [], List.Perm.refl _, List.Pairwise.nil, ho⟩
 ·obtain ⟨L, rfl⟩ := bsp_of hb
  rw [← bsp_flat, List.length_map] at ho
  rw [List.length_map] at hl ⊢
  have hlt := (gsl hh)
  have eg : ∀ args w, (callFunc 83 args).run Tryz.prog w = .ok (.enter 83 args) w := enters_of Tryz.func83 (by kernel_rfl) rfl
  have hcon := AnyQ.slices_SortFunc spLay 2 (fun _ => by kernel_rfl) (fun _ => by kernel_rfl) bEnc (fun _ => rfl) (fun x v hv => by simp [bEnc, spnEnc] at hv; rcases hv with rfl | rfl <;> rfl) cmpSp swoSp 83 #[] g 0 cap L.toArray W eg (fun _ _ _ _ x y => cmp_laysSp x y _) (own_holdsSp ho) hlt (by simp; omega)
  refine Calls.mono hcon ?_
  rintro e w' ⟨rfl, d', n, os, hp, hs, rfl⟩
  have hds : d'.size = L.length := by simpa using hp.1
  obtain ⟨q1, q2, q3⟩ := own_sortedSp ho d' hds n os
  have hperm : d'.toList.Perm L := by
   have h := hp.2.2
   have e1 : d'.extract 0 L.toArray.size = d' := by rw [← hp.1]; exact Array.extract_size
   rw [e1, Array.extract_size] at h
   simpa using h
  refine ⟨rfl, ⟨rfl, rfl, rfl, q2, fun k hk => q3 k (by omega) (by omega)⟩, d'.toList.map (·.1), hperm.map _, ?_, ?_⟩
  ·rw [List.pairwise_map, List.pairwise_iff_getElem]
   intro i j hi hj hij
   have hi' : i < d'.size := by simpa using hi
   have hj' : j < d'.size := by simpa using hj
   have := hs i j (Nat.zero_le _) hij (by simp; omega)
   rw [getElem!_pos d' j hj', getElem!_pos d' i hi', ltSp, decide_eq_false_iff_not] at this
   simp only [Array.getElem_toList]
   omega
  ·rw [← bsp_flat, List.length_map, show d'.toList.length = L.length by simpa using hds]
   exact q1
end Go.Proofs.YtphdalgaemefoaaGreat
