/- math/bits.Mul; slices.Repeat at spans. -/
import Derived.Test.YtphdalgaemefoaaGreatRdMapR
import Derived.Test.YtphdalgaemefoaaGreatQTail
import Derived.Deep.RegionLaw
import Derived.Laws.MakeOwn
namespace Go.Proofs.YtphdalgaemefoaaGreat
set_option maxRecDepth 100000
set_option maxHeartbeats 1000000
open Go.RowKit
set_option linter.unusedVariables false
set_option linter.unusedSimpArgs false
theorem pf_bMul (n : Nat) (hn : n ≤ 1000000) (w : World) : Calls Tryz.prog 84 #[.int .u64 1, .int .u64 (n : Int)] w fun e w' => e = .returned (.tuple #[.int .u64 0, .int .u64 (n : Int)]) ∧ w = w' := by
 have hm := fun W => pf_Mul64 n hn W
 have hm' := hyd1 hm
 clear hm
 go_enter Tryz.func84, Tryz.ntmps84
 go_wp2_with (first | (go_at_call 90; ((with_reducible refine (hm'.out _).mono ?_); rintro e w' ⟨rfl, rfl⟩)))
 go_ret2
 exact ⟨rfl, rfl⟩
theorem wpList_makeX {P : Program} (w : World) {ops : Array Oper} {rest : List Oper} {o : Oper} {a : Act} {Q : Exit → Act → World → Prop} (hg : o.guard = none) (l c : Operand) (t : TypeId) (hop : o.op = Op.makeSlice t l c) (e : TypeId) (z : Value) (sz bytes : Nat)
  (ht : P.underlying t = some (.slice e)) (hi : (P.info? e).map (fun i => (i.zero, i.size, i.bytes)) = some (some z, sz, bytes)) (hb5 : bytes ≤ 1000) (n : Nat) (hl : a.eval l = .int .i64 (n : Int)) (hc : a.eval c = .int .i64 (n : Int)) (hn : n ≤ 1000000)
  (hK : ∀ w', Hid (w'.heap[w.heap.size]? = some (.cells (madeCells z.cells (n * sz)) e)) → Below w.heap.size w w' → wpList P ops Q rest (a.put o.dst (.slice (some ⟨w.heap.size, 0, none⟩) n n)) w') : wpList P ops Q (o :: rest) a w := by
 obtain ⟨i, hi0, hz, hs, hb⟩ := info_parts hi
 refine wpList_plain hg fun K' hK' => ?_
 have hbb : (i.bytes : Int) * (n : Int) ≤ 281474976710656 := by
  have : i.bytes * n ≤ 1000 * 1000000 := Nat.mul_le_mul (by omega) hn
  have h2 : ((i.bytes * n : Nat) : Int) ≤ 281474976710656 := by omega
  rwa [Int.natCast_mul] at h2
 have hrun := run_make (P := P) w t e i z ht hi0 hz .i64 .i64 (n : Int) (n : Int) (by omega) (Int.le_refl _) hbb (by omega)
 rw [Int.toNat_natCast, hs] at hrun
 unfold Oper.wp
 simp [execOp, hop, hl, hc, hrun, Result.andThen]
 exact hK' _ _ (hK _ (alc_at _ _) (alc1 _ _))
theorem step_copyS {P : Program} {ops : Array Oper} {o : Oper} {a : Act} {w : World} {K : Act → World → Prop} {Q : Exit → Act → World → Prop} {E : Prop} (hgd : o.guard = none) (d s : Operand) (dT sT : TypeId)
  (ho : o.op = .call { callee := .builtin .copy, args := #[d, s], argTypes := #[dT, sT] }) (elem : TypeId) (hu : P.underlying dT = some (.slice elem)) (sz : Nat) (hsz : (P.info? elem).map (·.size) = some sz)
  (g off dLen dCap : Nat) (ad : Addr) (sLen sCap : Nat) (hd : a.eval d = .slice (some ⟨g, off, none⟩) dLen dCap) (hs : a.eval s = .slice (some ad) sLen sCap)
  (cur : List Value) (t : TypeId) (hg : w.heap[g]? = some (.cells cur.toArray t (0, 0))) (n : Nat) (hmin : Nat.min sLen dLen = n) (cs : List Value) (hn : cs.length = n * sz)
  (hsrc : ∀ j v, cs[j]? = some v → w.cell? (ad.add j) = some v) (hfit : off + cs.length ≤ cur.length) (h1 : ∀ v ∈ cs, v.oneCell' = true)
  (h : ∀ w', Hid (w'.heap[g]? = some (.cells (splice cur off cs).toArray t (0, 0))) → Below g w w' → K (a.put o.dst (.int .i64 (n : Int))) w') :
  if Region.wanted o (yielded ops a.tmps) = true then Oper.wp P o a w K Q else E := by
 have hw : Region.wanted o (yielded ops a.tmps) = true := by simp [Region.wanted, hgd]
 rw [if_pos hw]
 have hrun := run_copy_rowS (P := P) w dT sT o.type elem sz g off dLen dCap ad sLen sCap cur.toArray t cs hu hsz hg (by rw [hmin]; exact hn) hsrc (by simpa using hfit) h1
 rw [hmin] at hrun
 unfold Oper.wp
 simp [execOp, ho, resolve, invoke, builtin, hd, hs, hrun, Result.andThen]
 refine h _ ?_ (below_setRow (Below.refl _ _) (Nat.le_refl _) _)
 show _ = _
 simpa [splice] using setRow_heap w g _ _ t _ hg
theorem madeSpn (n : Nat) : madeCells #[.int .i64 0, .int .i64 0] (n * 2) = (flatR (0, 0) n).toArray := by
 apply Array.ext'
 apply List.ext_getElem
 ·simp [madeCells, flatR_length]
 ·intro i h1 h2
  simp [madeCells, Value.cells]
  have hz : ∀ v ∈ flatR (0, 0) n, v = .int .i64 0 := by
   intro v hv
   unfold flatR at hv
   rw [List.mem_flatMap] at hv
   obtain ⟨x, hx, hv⟩ := hv
   obtain rfl := List.eq_of_mem_replicate hx
   simpa [spnEnc] using hv
  have hm := hz _ (List.getElem_mem h2)
  rw [show (flatR (0, 0) n).toArray.toList[i] = Value.int .i64 0 from hm]
  have : i % 2 = 0 ∨ i % 2 = 1 := by omega
  rcases this with e | e <;> simp [e]
theorem spanInfo : (Tryz.prog.info? 101).map (fun i => (i.zero, i.size, i.bytes)) = some (some (.agg #[.int .i64 0, .int .i64 0]), 2, 16) := by kernel_rfl
theorem spanSize : (Tryz.prog.info? 101).map (·.size) = some 2 := by kernel_rfl
theorem pf_Repeat (X n : Nat) (s : Spn) (w : World) (h0 : 0 < n) (hn : n ≤ 1000) (hX : X < w.heap.size) (hk : w.heap[X]? = some (.cells #[.int .i64 s.1, .int .i64 s.2] 101)) :
  Calls Tryz.prog 69 #[.slice (some ⟨X, 0, none⟩) 1 1, .int .i64 (n : Int)] w fun e w' => e = .returned (.slice (some ⟨w.heap.size, 0, none⟩) n n) ∧ Below w.heap.size w w' ∧ w'.heap[w.heap.size]? = some (.cells ((List.replicate n s).flatMap spnEnc).toArray 101) := by
 have hm := fun W => pf_bMul n (by omega) W
 have j1 : ¬ (n : Int) < 0 := by omega
 have j2 : (0 : Int) ≤ (n : Int) := by omega
 have j3 : (n : Int) ≤ 1000 := by omega
 have j4 : ¬ (9223372036854775807 : Int) < (n : Int) := by omega
 have ⟨hm', hk'⟩ := hyd2 hm hk
 clear hk hm
 go_enter Tryz.func69, Tryz.ntmps69
 go_wp2_with (first | (go_at_call 84; ((with_reducible refine (hm'.out _).mono ?_); rintro e w' ⟨rfl, rfl⟩)) | (at_make; go_must (refine wpList_makeX _ rfl _ _ 98 rfl 101 _ 2 16 Tryz.underlying98 spanInfo (by decide) n rfl rfl (by omega) ?_)))
 intro w1 hw1 hb1
 have hk1 : w1.heap[w.heap.size]? = some (.cells (flatR (0, 0) n).toArray 101) := by rw [hw1.out, madeSpn]
 have hkX := blk hb1 hk'.out
 obtain ⟨x0, x1⟩ := pc2 hkX
 have hne : X ≠ w.heap.size := by omega
 clear hw1
 have ⟨hk1', hb1', hkX'⟩ := hyd3 hk1 hb1 hkX
 clear hkX hb1 hk1
 generalize hG : w.heap.size = G at *
 go_wp2_with (first | refine wpList_copyS rfl (.tmp 31) (.tmp 32) _ _ rfl 101 Tryz.underlying98 2 spanSize G 0 n n ⟨X, 0, none⟩ 1 1 rfl rfl (flatR (0, 0) n) 101 hk1'.out 1 (Nat.min_eq_left (by omega)) (spnEnc s) rfl ?_ (by rw [flatR_length]; show 0 + 2 ≤ _; omega) (by simp [spnEnc, Value.oneCell']) ?_)
 ·intro j v hv
  have hj : j < 2 := (List.getElem?_eq_some_iff.1 hv).1
  have hadd : (⟨X, 0, none⟩ : Addr).add j = ⟨X, j, none⟩ := by unfold Addr.add; split <;> simp_all
  rw [hadd]
  have : j = 0 ∨ j = 1 := by omega
  rcases this with rfl | rfl
  ·rw [x0]; simpa [spnEnc] using hv
  ·rw [x1]; simpa [spnEnc] using hv
 intro w2 hk2 hb2
 have hk3 : w2.heap[G]? = some (.cells (repS s 1 n).toArray 101) := by
  have h := hk2.out
  rw [← flatR_one s, show flatR (0, 0) n = repS s 0 n from by unfold repS; rw [Nat.sub_zero]; simp [flatR], show (0 : Nat) = 0 * 2 from rfl, repS_splice (by omega)] at h
  simpa using h
 have hb3 : Below G w w2 := hb1'.out.trans hb2
 have hI0 : Below G w w2 ∧ w2.heap[G]? = some (.cells (repS s 1 n).toArray 101) := ⟨hb3, hk3⟩
 clear x0 x1 hk3 hb3
 have ⟨hI0', hk2', hb2'⟩ := hyd3 hI0 hk2 hb2
 clear hb2 hk2 hI0
 go_wp2
 go_loopw [8] (fun nx wr => ∃ m : Nat, 1 ≤ m ∧ m ≤ n ∧ nx = .int .i64 (m : Int) ∧ Hid (Below G w wr ∧ wr.heap[G]? = some (.cells (repS s m n).toArray 101))) (fun nx _ => n - (intOf nx).toNat)
 case atStart => exact ⟨1, by omega, by omega, rfl, hI0'⟩
 case round =>
  obtain ⟨m, hm1, hmn, rfl, hI⟩ := hrel
  by_cases hlt : m < n
  ·obtain ⟨hbw, hkw⟩ := hI.out
   obtain ⟨q, hq, hqm, hqn⟩ : ∃ q, Nat.min m (n - m) = q ∧ q ≤ m ∧ m + q ≤ n := ⟨_, rfl, Nat.min_le_left _ _, by have h : Nat.min m (n - m) ≤ n - m := Nat.min_le_right m (n - m); have h2 : m + (n - m) = n := (by omega); exact Nat.le_trans (Nat.add_le_add_left h m) (Nat.le_of_eq h2)⟩
   have hq1 : 1 ≤ q := by rw [← hq]; exact Nat.le_min.2 ⟨hm1, by omega⟩
   have e1 : (m : Int) < (n : Int) := by omega
   have e2 : (0 : Int) ≤ (m : Int) := by omega
   have e3 : (m : Int) ≤ (n : Int) := by omega
   have e4 : (m : Int) + (q : Int) ≤ 1000 := by omega
   have e6 : IntKind.i64.wrap ((m : Int) + (q : Int)) = (m : Int) + (q : Int) := by rw [IntKind.wrap_i64]; omega
   have hsrc : ∀ j v, (flatR s q)[j]? = some v → wr.cell? ((⟨G, 0, none⟩ : Addr).add j) = some v := by
    intro j v hv
    have hadd : (⟨G, 0, none⟩ : Addr).add j = ⟨G, j, none⟩ := by unfold Addr.add; split <;> simp_all
    have h := repS_get (N := n) hqm hv
    rw [hadd]
    simp only [World.cell?, hkw]
    simpa using h
   have hfit : m * 2 + (flatR s q).length ≤ (repS s m n).length := by rw [flatR_length, repS_length (by omega)]; omega
   have ⟨hI', hbw', hkw', hq', hsrc', hfit', e6'⟩ := hyd7 hI hbw hkw hq hsrc hfit e6
   clear e6 hfit hsrc hq hkw hbw hI
   go_wp2_with (fail)
   go_region_law (refine step_copyS rfl (.tmp 41) (.tmp 44) _ _ rfl 101 Tryz.underlying98 2 spanSize G (m * 2) (n - m) (n - m) ⟨G, 0, none⟩ m n (by simp [Act.eval, Act.put]; omega) (by simp [Act.eval, Act.put]) (repS s m n) 101 hkw'.out q hq'.out (flatR s q) (flatR_length s q) hsrc'.out hfit'.out (flatR_cells s q) ?_; intro w4 hg4 hb4)
   have hI2 : Below G w w4 ∧ w4.heap[G]? = some (.cells (repS s (m + q) n).toArray 101) := ⟨(below_drewN' hbw'.out 1).trans hb4, by rw [← repS_splice hqn]; exact hg4.out⟩
   have ⟨hI2', hg4', hb4'⟩ := hyd3 hI2 hg4 hb4
   clear hb4 hg4 hI2
   go_wp2
   simp only [e6'.out]
   go_roundw
   case rel => exact ⟨m + q, by omega, hqn, by go_num, hI2'⟩
   case measure => simp [intOf]; omega
  ·obtain rfl : m = n := by omega
   have hI' := hyd1 hI
   clear hI
   go_wp2
   go_ret
   subst hG
   exact ⟨rfl, hI'.out.out.1, by rw [← repS_full]; exact hI'.out.out.2⟩
end Go.Proofs.YtphdalgaemefoaaGreat
