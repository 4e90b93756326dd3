/- Copying rows of structs; slices.Repeat at spans. The bases of a mount: a map from cuts to rows of ranges, in memory. -/
import Derived.Test.YtphdalgaemefoaaGreatPicKit
import Derived.Laws.CopyOwn
import Derived.Lib.Mul64
import Derived.Laws.Bits64b
import Derived.Maps.OwnSet
import Derived.Maps.OwnOps
import Derived.Maps.RangeWalk
namespace Go.Proofs.YtphdalgaemefoaaGreat
set_option maxRecDepth 100000
open Go.RowKit
set_option linter.unusedVariables false
set_option linter.unusedSimpArgs false
theorem run_copy_rowS {P : Program} (w : World) (dT sT ty elem : TypeId) (sz g o dLen dCap : Nat) (a : Addr) (sLen sCap : Nat) (cur : Array Value) (t : TypeId) (cs : List Value)
  (hu : P.underlying dT = some (.slice elem)) (hs : (P.info? elem).map (·.size) = some sz)
  (hg : w.heap[g]? = some (.cells cur t (0, 0))) (hn : cs.length = Nat.min sLen dLen * sz)
  (hsrc : ∀ j v, cs[j]? = some v → w.cell? (a.add j) = some v) (hfit : o + cs.length ≤ cur.size) (h1 : ∀ v ∈ cs, v.oneCell' = true) :
  (Builtin.copy_ #[dT, sT] ty #[.slice (some ⟨g, o, none⟩) dLen dCap, .slice (some a) sLen sCap]).run P w =
   .ok (goInt (Nat.min sLen dLen)) (w.setRow g (cur.toList.take o ++ cs ++ cur.toList.drop (o + cs.length)).toArray) := by
 have hl := run_loadCells_list (P := P) w a cs hsrc
 have hst := run_storeCells_at P g o t cs 0 cur w hg (by simpa using hfit) h1
 cases hq : P.info? elem with
 | none => simp [hq] at hs
 | some i =>
  have hi : i.size = sz := by simpa [hq] using hs
  simp [Builtin.copy_, run_underlying hu, Builtin.lenOf, Builtin.firstCells, sizeOf, typeInfo, hq, hi, ← hn, hl, hst]
theorem wpList_copyS {P : Program} {w : World} {ops : Array Oper} {rest : List Oper} {o : Oper} {a : Act} {Q : Exit → Act → World → Prop} (hgd : o.guard = none) (d s : Operand) (dT sT : TypeId)
  (ho : o.op = .call { callee := .builtin .copy, args := #[d, s], argTypes := #[dT, sT] }) (elem : TypeId) (hu : P.underlying dT = some (.slice elem)) (sz : Nat) (hsz : (P.info? elem).map (·.size) = some sz)
  (g off dLen dCap : Nat) (ad : Addr) (sLen sCap : Nat) (hd : a.eval d = .slice (some ⟨g, off, none⟩) dLen dCap) (hs : a.eval s = .slice (some ad) sLen sCap)
  (cur : List Value) (t : TypeId) (hg : w.heap[g]? = some (.cells cur.toArray t (0, 0))) (n : Nat) (hmin : Nat.min sLen dLen = n) (cs : List Value) (hn : cs.length = n * sz)
  (hsrc : ∀ j v, cs[j]? = some v → w.cell? (ad.add j) = some v) (hfit : off + cs.length ≤ cur.length) (h1 : ∀ v ∈ cs, v.oneCell' = true)
  (h : ∀ w', Hid (w'.heap[g]? = some (.cells (splice cur off cs).toArray t (0, 0))) → Below g w w' → wpList P ops Q rest (a.put o.dst (.int .i64 (n : Int))) w') :
  wpList P ops Q (o :: rest) a w := by
 refine wpList_plain hgd fun K hK => ?_
 have hrun := run_copy_rowS (P := P) w dT sT o.type elem sz g off dLen dCap ad sLen sCap cur.toArray t cs hu hsz hg (by rw [hmin]; exact hn) hsrc (by simpa using hfit) h1
 rw [hmin] at hrun
 unfold Oper.wp
 simp [execOp, ho, resolve, invoke, builtin, hd, hs, hrun, Result.andThen]
 refine hK _ _ (h _ ?_ (below_setRow (Below.refl _ _) (Nat.le_refl _) _))
 show _ = _
 simpa [splice] using setRow_heap w g _ _ t _ hg
def flatR (s : Spn) (n : Nat) : List Value := (List.replicate n s).flatMap spnEnc
theorem flatR_length (s : Spn) (n : Nat) : (flatR s n).length = n * 2 := by unfold flatR; rw [flat_length (k := 2) (fun _ => rfl)]; simp
theorem flatR_add (s : Spn) (m n : Nat) : flatR s (m + n) = flatR s m ++ flatR s n := by unfold flatR; rw [← List.flatMap_append, List.replicate_append_replicate]
theorem flatR_one (s : Spn) : flatR s 1 = spnEnc s := by unfold flatR; simp
theorem flatR_cells (s : Spn) (n : Nat) : ∀ v ∈ flatR s n, v.oneCell' = true := by
 intro v hv
 unfold flatR at hv
 rw [List.mem_flatMap] at hv
 obtain ⟨x, -, hv⟩ := hv
 simp [spnEnc] at hv
 rcases hv with rfl | rfl <;> rfl
def repS (s : Spn) (m N : Nat) : List Value := flatR s m ++ flatR (0, 0) (N - m)
theorem repS_length {s : Spn} {m N : Nat} (h : m ≤ N) : (repS s m N).length = N * 2 := by unfold repS; rw [List.length_append, flatR_length, flatR_length, ← Nat.add_mul]; congr 1; omega
theorem repS_splice {s : Spn} {m N k : Nat} (h : m + k ≤ N) : splice (repS s m N) (m * 2) (flatR s k) = repS s (m + k) N := by
 unfold splice repS
 have e : N - m = k + (N - (m + k)) := by omega
 have e1 : (flatR s m ++ flatR (0, 0) k).length = (m + k) * 2 := by rw [List.length_append, flatR_length, flatR_length, ← Nat.add_mul]
 rw [List.take_left' (flatR_length s m), flatR_length, ← Nat.add_mul, flatR_add s m k, e, flatR_add (0, 0), ← List.append_assoc (flatR s m) (flatR (0, 0) k), List.drop_left' e1, List.append_assoc]
theorem repS_get {s : Spn} {m N k j : Nat} {v : Value} (hk : k ≤ m) (h : (flatR s k)[j]? = some v) : (repS s m N)[j]? = some v := by
 unfold repS
 obtain ⟨d, rfl⟩ : ∃ d, m = k + d := ⟨m - k, by omega⟩
 have hj := (List.getElem?_eq_some_iff.1 h).1
 rw [flatR_add, List.append_assoc, List.getElem?_append_left hj]
 exact h
theorem repS_full (s : Spn) (N : Nat) : repS s N N = (List.replicate N s).flatMap spnEnc := by unfold repS; rw [Nat.sub_self]; unfold flatR; simp
theorem mask32 (a : Nat) (ha : a < 18446744073709551616) : bits .and .u64 (a : Int) 4294967295 = ((a % 4294967296 : Nat) : Int) := by
 have h := bits_and_u64_nat a 4294967295 ha (by omega)
 have e : a &&& 4294967295 = a % 4294967296 := Nat.and_two_pow_sub_one_eq_mod a 32
 rw [e] at h
 exact h
theorem pf_Mul64 (n : Nat) (hn : n ≤ 1000000) (w : World) : Calls Tryz.prog 90 #[.int .u64 1, .int .u64 (n : Int)] w fun e w' => e = .returned (.tuple #[.int .u64 0, .int .u64 (n : Int)]) ∧ w = w' := by
 have m1 : bits .and .u64 1 4294967295 = 1 := mask32 1 (by decide)
 have m0 : bits .and .u64 0 4294967295 = 0 := mask32 0 (by decide)
 have m2 : bits .and .u64 (n : Int) 4294967295 = (n : Int) := by rw [mask32 n (by omega), Nat.mod_eq_of_lt (by omega)]
 have d1 : (n : Int) / 4294967296 = 0 := by omega
 go_enter Tryz.func90, Tryz.ntmps90
 go_wp2
 go_ret2
 exact ⟨by simp [m1, m2, m0, d1], rfl⟩
end Go.Proofs.YtphdalgaemefoaaGreat
namespace Go.Proofs.YtphdalgaemefoaaGreat
set_option maxRecDepth 100000
open Go.RowKit
set_option linter.unusedVariables false
set_option linter.unusedSimpArgs false
def hdD (b n c : Nat) : DataW Unit := .agg [.lit (.int .i64 (b : Int)), .lit (.int .i64 (n : Int)), .lit (.int .i64 (c : Int))]
def hdV : Option (Nat × Nat × Nat) → Value
 | none => .slice none 0 0
 | some (b, n, c) => .slice (some ⟨b, 0, none⟩) n c
def hdY : Option (Nat × Nat × Nat) → DataW Unit
 | none => .nil
 | some (b, n, c) => hdD b n c
def hdR : Value → Option (DataW Unit × List MemPlace)
 | .slice none n c => if n = 0 ∧ c = 0 then some (.nil, []) else none
 | .slice (some a) n c => if a.off = 0 ∧ a.spot = none then some (hdD a.block n c, []) else none
 | _ => none
theorem hdR_mk (x : Option (Nat × Nat × Nat)) : hdR (hdV x) = some (hdY x, []) := by
 cases x with
 | none => rfl
 | some y => obtain ⟨b, n, c⟩ := y; rfl
theorem hdR_inv {v : Value} {y : DataW Unit × List MemPlace} (h : hdR v = some y) : ∃ x, v = hdV x ∧ y = (hdY x, []) := by
 unfold hdR at h
 split at h
 ·rename_i n c
  split at h
  ·rename_i hc
   obtain ⟨rfl, rfl⟩ := hc
   injection h with h
   exact ⟨none, rfl, h.symm⟩
  ·cases h
 ·rename_i a n c
  split at h
  ·rename_i hc
   obtain ⟨b, o, e⟩ := a
   simp only at hc
   obtain ⟨rfl, rfl⟩ := hc
   injection h with h
   exact ⟨some (b, n, c), rfl, h.symm⟩
  ·cases h
 ·cases h
theorem hdY_inj {x : Option (Nat × Nat × Nat)} {b n c : Nat} (h : hdY x = hdD b n c) : x = some (b, n, c) := by
 cases x with
 | none => cases h
 | some y =>
  obtain ⟨b', n', c'⟩ := y
  unfold hdY hdD at h
  simp at h
  obtain ⟨h1, h2, h3⟩ := h
  have e1 : b' = b := by omega
  have e2 : n' = n := by omega
  have e3 : c' = c := by omega
  rw [e1, e2, e3]
theorem hdY_nil {x : Option (Nat × Nat × Nat)} (h : hdY x = .nil) : x = none := by
 cases x with
 | none => rfl
 | some y => cases h
theorem keyed9 : Maps.Keyed Tryz.prog 3 := Maps.int_keyed Tryz.underlying3
theorem zero9 (w : World) : (zeroValue 98).run Tryz.prog w = .ok (.slice none 0 0) w := by kernel_rfl
section
variable {w : World} {ops : Array Oper} {rest : List Oper} {o : Oper} {a : Act} {Q : Exit → Act → World → Prop} {B n : Nat} {D : DataW Unit}
theorem wpList_lookHas (hg : o.guard = none) (m x : Operand) (hop : o.op = Op.lookup 95 m x false) (hm : a.eval m = .map (some B)) (hown : w.ownsMap Tryz.prog 3 hdR B n D)
  (c : Int) (hx : a.eval x = .int .i64 c) (hc : (Lit.int .i64 c).wf = true) (b l k : Nat) (hat : ∀ z, D.atKey (.int .i64 c) z = hdD b l k)
  (hK : wpList Tryz.prog ops Q rest (a.put o.dst (.slice (some ⟨b, 0, none⟩) l k)) w) : wpList Tryz.prog ops Q (o :: rest) a w := by
 refine wpList_plain hg fun K' hK' => ?_
 obtain ⟨v, ps, hrun, hv⟩ := hown.lookup keyed9 Tryz.underlying95 (zero9 w) (hdR_mk none) (Maps.keyOf_int_mk Tryz.underlying3 hc)
 rw [hat] at hv
 obtain ⟨y, rfl, hy⟩ := hdR_inv hv
 obtain rfl := hdY_inj (congrArg Prod.fst hy).symm
 unfold Oper.wp
 simp [execOp, hop, hm, hx, hrun, Result.andThen]
 exact hK' _ _ hK
theorem wpList_lookNot (hg : o.guard = none) (m x : Operand) (hop : o.op = Op.lookup 95 m x false) (hm : a.eval m = .map (some B)) (hown : w.ownsMap Tryz.prog 3 hdR B n D)
  (c : Int) (hx : a.eval x = .int .i64 c) (hc : (Lit.int .i64 c).wf = true) (hat : Maps.has D (.int .i64 c) = false)
  (hK : wpList Tryz.prog ops Q rest (a.put o.dst (.slice none 0 0)) w) : wpList Tryz.prog ops Q (o :: rest) a w := by
 refine wpList_plain hg fun K' hK' => ?_
 obtain ⟨v, ps, hrun, hv⟩ := hown.lookup keyed9 Tryz.underlying95 (zero9 w) (hdR_mk none) (Maps.keyOf_int_mk Tryz.underlying3 hc)
 rw [Maps.atKey_of_not_has hat] at hv
 obtain ⟨y, rfl, hy⟩ := hdR_inv hv
 obtain rfl := hdY_nil (congrArg Prod.fst hy).symm
 unfold Oper.wp
 simp [execOp, hop, hm, hx, hrun, Result.andThen]
 exact hK' _ _ hK
theorem wpList_lookOk (hg : o.guard = none) (m x : Operand) (hop : o.op = Op.lookup 95 m x true) (hm : a.eval m = .map (some B)) (hown : w.ownsMap Tryz.prog 3 hdR B n D)
  (c : Int) (hx : a.eval x = .int .i64 c) (hc : (Lit.int .i64 c).wf = true)
  (hK : ∀ y, hdY y = D.atKey (.int .i64 c) .nil → wpList Tryz.prog ops Q rest (a.put o.dst (.tuple #[hdV y, .bool (Maps.has D (.int .i64 c))])) w) : wpList Tryz.prog ops Q (o :: rest) a w := by
 refine wpList_lookup_own_ok w hg m x _ hop _ _ keyed9 Tryz.underlying95 hdR (zero9 w) .nil [] (hdR_mk none) B n D hm hown _ _ hx (Maps.keyOf_int_mk Tryz.underlying3 hc) fun v ps hv => ?_
 obtain ⟨y, rfl, hy⟩ := hdR_inv hv
 exact hK y (congrArg Prod.fst hy).symm
end
theorem look_run {w : World} {B n : Nat} {D : DataW Unit} (hown : w.ownsMap Tryz.prog 3 hdR B n D) {c : Int} (hc : (Lit.int .i64 c).wf = true) {b l k : Nat} (hat : ∀ z, D.atKey (.int .i64 c) z = hdD b l k) :
  (Instr.lookup 95 (.map (some B)) (.int .i64 c) false).run Tryz.prog w = .ok (.slice (some ⟨b, 0, none⟩) l k) w := by
 obtain ⟨v, ps, hrun, hv⟩ := hown.lookup keyed9 Tryz.underlying95 (zero9 w) (hdR_mk none) (Maps.keyOf_int_mk Tryz.underlying3 hc)
 rw [hat] at hv
 obtain ⟨y, rfl, hy⟩ := hdR_inv hv
 obtain rfl := hdY_inj (congrArg Prod.fst hy).symm
 exact hrun
structure Bases (w : World) (B n : Nat) (D : DataW Unit) (bl : Int → Nat) (Z len : Nat) (cs : Int → Bool) (row : Int → List Spn) : Prop where
 own : w.ownsMap Tryz.prog 3 hdR B n D
 has : ∀ c, (Lit.int .i64 c).wf = true → Maps.has D (.int .i64 c) = cs c
 wf : ∀ c, cs c = true → (Lit.int .i64 c).wf = true
 get : ∀ c, cs c = true → ∀ z, D.atKey (.int .i64 c) z = hdD (bl c) len len
 blk : ∀ c, cs c = true → Z ≤ bl c ∧ w.heap[bl c]? = some (.cells ((row c).flatMap spnEnc).toArray 101)
 len : ∀ c, cs c = true → (row c).length = len
 apart : ∀ c d, cs c = true → cs d = true → bl c = bl d → c = d
theorem map_ne_cells {w : World} {B n b : Nat} {D : DataW Unit} {cs : Array Value} {t : TypeId} (h : w.ownsMap Tryz.prog 3 hdR B n D) (hb : w.heap[b]? = some (.cells cs t)) : b ≠ B := by
 rintro rfl
 obtain ⟨es, cl, h1, -⟩ := h
 rw [h1] at hb
 cases hb
theorem Bases.le {w W : World} {B n : Nat} {D : DataW Unit} {bl : Int → Nat} {Z len : Nat} {cs : Int → Bool} {row : Int → List Spn} (h : Bases w B n D bl Z len cs row) (hb : Below w.heap.size w W) : Bases W B n D bl Z len cs row := by
 refine ⟨?_, h.has, h.wf, h.get, fun c hc => ⟨(h.blk c hc).1, (hb.block _ (gsl (h.blk c hc).2)).trans (h.blk c hc).2⟩, h.len, h.apart⟩
 obtain ⟨es, cl, h1, h2⟩ := h.own
 exact ⟨es, cl, (hb.block _ (gsl h1)).trans h1, h2⟩
theorem Bases.size {w : World} {B n : Nat} {D : DataW Unit} {bl : Int → Nat} {Z len : Nat} {cs : Int → Bool} {row : Int → List Spn} (h : Bases w B n D bl Z len cs row) : B < w.heap.size := h.own.lt
theorem WideAt_int (c : Int) : WideAt.IsKeyLit (.int .i64 c) := by unfold WideAt.IsKeyLit; trivial
theorem Bases.put {w W : World} {B n : Nat} {D : DataW Unit} {bl : Int → Nat} {Z len : Nat} {cs : Int → Bool} {row : Int → List Spn} (h : Bases w B n D bl Z len cs row) {c : Int} {g : Nat} (hc : cs (c : Int) = false) (hw : (Lit.int .i64 (c : Int)).wf = true)
  (hg : ∀ d, cs d = true → bl d ≠ g) (hZ : Z ≤ g) (hgB : g ≠ B) {L : List Spn} (hgr : w.heap[g]? = some (.cells (L.flatMap spnEnc).toArray 101)) (hL : L.length = len)
  (hown : W.ownsMap Tryz.prog 3 hdR B (n + 1) (D.put (.int .i64 (c : Int)) (hdD g len len))) (hgrow : w.grownBy W (some B)) :
  Bases W B (n + 1) (D.put (.int .i64 (c : Int)) (hdD g len len)) (fun d => if d = (c : Int) then g else bl d) Z len (fun d => decide (d = (c : Int)) || cs d) (fun d => if d = (c : Int) then L else row d) := by
 have hm := h.own.isMap
 have keep : ∀ (b : Nat) (v : Array Value) (t : TypeId), b ≠ B → w.heap[b]? = some (.cells v t) → W.heap[b]? = some (.cells v t) := fun b v t hne hb => (hgrow.block b (gsl hb) (by simpa using hne)).trans hb
 refine ⟨hown, fun d hd => ?_, fun d hd => ?_, fun d hd z => ?_, fun d hd => ?_, fun d hd => ?_, fun d e hd he hbe => ?_⟩
 ·by_cases e : d = (c : Int)
  ·subst e
   rw [Maps.has_put_same hm (WideAt_int _)]
   simp
  ·rw [Maps.has_put_other (by simpa using e), h.has d hd]
   simp [e]
 ·by_cases e : d = (c : Int)
  ·subst e; exact hw
  ·simp [e] at hd; exact h.wf d hd
 ·by_cases e : d = (c : Int)
  ·subst e
   rw [Maps.atKey_put_same hm (WideAt_int _)]
   simp
  ·simp [e] at hd
   rw [Maps.atKey_put_other (by simpa using e), h.get d hd]
   simp [e]
 ·by_cases e : d = (c : Int)
  ·subst e
   simp only [if_true]
   exact ⟨hZ, keep _ _ _ hgB hgr⟩
  ·simp [e] at hd
   simp only [if_neg e]
   exact ⟨(h.blk d hd).1, keep _ _ _ (map_ne_cells h.own (h.blk d hd).2) (h.blk d hd).2⟩
 ·by_cases e : d = (c : Int)
  ·subst e; simpa using hL
  ·simp [e] at hd; simp only [if_neg e]; exact h.len d hd
 ·by_cases e1 : d = (c : Int)
  ·by_cases e2 : e = (c : Int)
   ·omega
   ·simp only [e1, if_neg e2] at hbe he
    simp [e2] at he
    exact absurd hbe.symm (hg e he)
  ·by_cases e2 : e = (c : Int)
   ·simp only [e2, if_neg e1] at hbe hd
    simp [e1] at hd
    exact absurd hbe (hg d hd)
   ·simp [e1] at hd
    simp [e2] at he
    simp only [if_neg e1, if_neg e2] at hbe
    exact h.apart d e hd he hbe
theorem flat_set2 : ∀ (L : List Spn) (j : Nat) (s : Spn), j < L.length → ((L.flatMap spnEnc).set (j * 2) (.int .i64 s.1)).set (j * 2 + 1) (.int .i64 s.2) = (L.set j s).flatMap spnEnc
 | x :: L, 0, s, _ => by simp [spnEnc]
 | x :: L, j + 1, s, h => by
  have ih := flat_set2 L j s (by simpa using h)
  rw [List.set_cons_succ, List.flatMap_cons, List.flatMap_cons, ← ih, show (j + 1) * 2 = (j * 2) + 2 by omega, show j * 2 + 2 + 1 = (j * 2 + 1) + 2 by omega]
  rfl
theorem row_set2 {W : World} {X j : Nat} {L : List Spn} {t : TypeId} (h : W.heap[X]? = some (.cells (L.flatMap spnEnc).toArray t)) (hj : j < L.length) (s : Spn) :
  ((W.setCell ⟨X, j * 2, none⟩ (.int .i64 s.1)).setCell ⟨X, j * 2 + 1, none⟩ (.int .i64 s.2)).heap[X]? = some (.cells ((L.set j s).flatMap spnEnc).toArray t) := by
 rw [← flat_set2 L j s hj]
 simp only [World.setCell, Array.getElem?_modify, h]
 simp
theorem row_cell {W : World} {X j : Nat} {L : List Spn} {t : TypeId} (h : W.heap[X]? = some (.cells (L.flatMap spnEnc).toArray t)) (hj : j < L.length) : W.cell? ⟨X, j * 2, none⟩ = some (.int .i64 L[j].1) ∧ W.cell? ⟨X, j * 2 + 1, none⟩ = some (.int .i64 L[j].2) := by
 have h0 := flat_get (enc := spnEnc) (k := 2) (fun _ => rfl) L j hj 0 _ rfl
 have h1 := flat_get (enc := spnEnc) (k := 2) (fun _ => rfl) L j hj 1 _ rfl
 exact ⟨by simp only [World.cell?, h]; simpa using h0, by simp only [World.cell?, h]; simpa using h1⟩
theorem Bases.set {w W : World} {B n : Nat} {D : DataW Unit} {bl : Int → Nat} {Z len : Nat} {cs : Int → Bool} {row : Int → List Spn} (h : Bases w B n D bl Z len cs row) {c : Int} (hc : cs c = true) {L : List Spn} (hL : L.length = len)
  (hb : W.heap[bl c]? = some (.cells (L.flatMap spnEnc).toArray 101)) (hk : ∀ k, k ≠ bl c → W.heap[k]? = w.heap[k]?) : Bases W B n D bl Z len cs (fun d => if d = c then L else row d) := by
 refine ⟨?_, h.has, h.wf, h.get, fun d hd => ?_, fun d hd => ?_, h.apart⟩
 ·obtain ⟨es, cl, h1, h2⟩ := h.own
  exact ⟨es, cl, (hk B fun e => map_ne_cells h.own (h.blk c hc).2 e.symm).trans h1, h2⟩
 ·by_cases e : d = c
  ·subst e
   simp only [if_true]
   exact ⟨(h.blk d hd).1, hb⟩
  ·simp only [if_neg e]
   exact ⟨(h.blk d hd).1, (hk _ fun q => e (h.apart d c hd hc q)).trans (h.blk d hd).2⟩
 ·by_cases e : d = c
  ·subst e; simpa using hL
  ·simp only [if_neg e]; exact h.len d hd
end Go.Proofs.YtphdalgaemefoaaGreat
