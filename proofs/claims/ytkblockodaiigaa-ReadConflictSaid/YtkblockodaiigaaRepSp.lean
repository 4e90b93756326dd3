/- Copying rows of structs; slices.Repeat at spans. -/
import Derived.Test.YtkblockodaiigaaPicKit
import Derived.Laws.CopyOwn
import Derived.Lib.Mul64
import Derived.Laws.Bits64b
namespace Go.Proofs.Ytkblockodaiigaa
set_option maxRecDepth 100000
open Go.RowKit
set_option linter.unusedVariables false
set_option linter.unusedSimpArgs false
theorem run_copy_rowS {P : Program} (w : World) (dT sT ty elem : TypeId) (sz g o dLen dCap : Nat) (a : Addr) (sLen sCap : Nat) (cur : Array Value) (t : TypeId) (cs : List Value)
  (hu : P.underlying dT = some (.slice elem)) (hs : (P.info? elem).map (·.size) = some sz)
  (hg : w.heap[g]? = some (.cells cur t (0, 0))) (hn : cs.length = Nat.min sLen dLen * sz)
  (hsrc : ∀ j v, cs[j]? = some v → w.cell? (a.add j) = some v) (hfit : o + cs.length ≤ cur.size) (h1 : ∀ v ∈ cs, v.oneCell' = true) :
  (Builtin.copy_ #[dT, sT] ty #[.slice (some ⟨g, o, none⟩) dLen dCap, .slice (some a) sLen sCap]).run P w =
   .ok (goInt (Nat.min sLen dLen)) (w.setRow g (cur.toList.take o ++ cs ++ cur.toList.drop (o + cs.length)).toArray) := by
 have hl := run_loadCells_list (P := P) w a cs hsrc
 have hst := run_storeCells_at P g o t cs 0 cur w hg (by simpa using hfit) h1
 cases hq : P.info? elem with
 | none => simp [hq] at hs
 | some i =>
  have hi : i.size = sz := by simpa [hq] using hs
  simp [Builtin.copy_, run_underlying hu, Builtin.lenOf, Builtin.firstCells, sizeOf, typeInfo, hq, hi, ← hn, hl, hst]
theorem wpList_copyS {P : Program} {w : World} {ops : Array Oper} {rest : List Oper} {o : Oper} {a : Act} {Q : Exit → Act → World → Prop} (hgd : o.guard = none) (d s : Operand) (dT sT : TypeId)
  (ho : o.op = .call { callee := .builtin .copy, args := #[d, s], argTypes := #[dT, sT] }) (elem : TypeId) (hu : P.underlying dT = some (.slice elem)) (sz : Nat) (hsz : (P.info? elem).map (·.size) = some sz)
  (g off dLen dCap : Nat) (ad : Addr) (sLen sCap : Nat) (hd : a.eval d = .slice (some ⟨g, off, none⟩) dLen dCap) (hs : a.eval s = .slice (some ad) sLen sCap)
  (cur : List Value) (t : TypeId) (hg : w.heap[g]? = some (.cells cur.toArray t (0, 0))) (n : Nat) (hmin : Nat.min sLen dLen = n) (cs : List Value) (hn : cs.length = n * sz)
  (hsrc : ∀ j v, cs[j]? = some v → w.cell? (ad.add j) = some v) (hfit : off + cs.length ≤ cur.length) (h1 : ∀ v ∈ cs, v.oneCell' = true)
  (h : ∀ w', Hid (w'.heap[g]? = some (.cells (splice cur off cs).toArray t (0, 0))) → Below g w w' → wpList P ops Q rest (a.put o.dst (.int .i64 (n : Int))) w') :
  wpList P ops Q (o :: rest) a w := by
 refine wpList_plain hgd fun K hK => ?_
 have hrun := run_copy_rowS (P := P) w dT sT o.type elem sz g off dLen dCap ad sLen sCap cur.toArray t cs hu hsz hg (by rw [hmin]; exact hn) hsrc (by simpa using hfit) h1
 rw [hmin] at hrun
 unfold Oper.wp
 simp [execOp, ho, resolve, invoke, builtin, hd, hs, hrun, Result.andThen]
 refine hK _ _ (h _ ?_ (below_setRow (Below.refl _ _) (Nat.le_refl _) _))
 show _ = _
 simpa [splice] using setRow_heap w g _ _ t _ hg
def flatR (s : Spn) (n : Nat) : List Value := (List.replicate n s).flatMap spnEnc
theorem flatR_length (s : Spn) (n : Nat) : (flatR s n).length = n * 2 := by unfold flatR; rw [flat_length (k := 2) (fun _ => rfl)]; simp
theorem flatR_add (s : Spn) (m n : Nat) : flatR s (m + n) = flatR s m ++ flatR s n := by unfold flatR; rw [← List.flatMap_append, List.replicate_append_replicate]
theorem flatR_one (s : Spn) : flatR s 1 = spnEnc s := by unfold flatR; simp
theorem flatR_cells (s : Spn) (n : Nat) : ∀ v ∈ flatR s n, v.oneCell' = true := by
 intro v hv
 unfold flatR at hv
 rw [List.mem_flatMap] at hv
 obtain ⟨x, -, hv⟩ := hv
 simp [spnEnc] at hv
 rcases hv with rfl | rfl <;> rfl
def repS (s : Spn) (m N : Nat) : List Value := flatR s m ++ flatR (0, 0) (N - m)
theorem repS_length {s : Spn} {m N : Nat} (h : m ≤ N) : (repS s m N).length = N * 2 := by unfold repS; rw [List.length_append, flatR_length, flatR_length, ← Nat.add_mul]; congr 1; omega
theorem repS_splice {s : Spn} {m N k : Nat} (h : m + k ≤ N) : splice (repS s m N) (m * 2) (flatR s k) = repS s (m + k) N := by
 unfold splice repS
 have e : N - m = k + (N - (m + k)) := by omega
 have e1 : (flatR s m ++ flatR (0, 0) k).length = (m + k) * 2 := by rw [List.length_append, flatR_length, flatR_length, ← Nat.add_mul]
 rw [List.take_left' (flatR_length s m), flatR_length, ← Nat.add_mul, flatR_add s m k, e, flatR_add (0, 0), ← List.append_assoc (flatR s m) (flatR (0, 0) k), List.drop_left' e1, List.append_assoc]
theorem repS_get {s : Spn} {m N k j : Nat} {v : Value} (hk : k ≤ m) (h : (flatR s k)[j]? = some v) : (repS s m N)[j]? = some v := by
 unfold repS
 obtain ⟨d, rfl⟩ : ∃ d, m = k + d := ⟨m - k, by omega⟩
 have hj := (List.getElem?_eq_some_iff.1 h).1
 rw [flatR_add, List.append_assoc, List.getElem?_append_left hj]
 exact h
theorem repS_full (s : Spn) (N : Nat) : repS s N N = (List.replicate N s).flatMap spnEnc := by unfold repS; rw [Nat.sub_self]; unfold flatR; simp
theorem mask32 (a : Nat) (ha : a < 18446744073709551616) : bits .and .u64 (a : Int) 4294967295 = ((a % 4294967296 : Nat) : Int) := by
 have h := bits_and_u64_nat a 4294967295 ha (by omega)
 have e : a &&& 4294967295 = a % 4294967296 := Nat.and_two_pow_sub_one_eq_mod a 32
 rw [e] at h
 exact h
theorem pf_Mul64 (n : Nat) (hn : n ≤ 1000000) (w : World) : Calls Try.prog 119 #[.int .u64 1, .int .u64 (n : Int)] w fun e w' => e = .returned (.tuple #[.int .u64 0, .int .u64 (n : Int)]) ∧ w = w' := by
 have m1 : bits .and .u64 1 4294967295 = 1 := mask32 1 (by decide)
 have m0 : bits .and .u64 0 4294967295 = 0 := mask32 0 (by decide)
 have m2 : bits .and .u64 (n : Int) 4294967295 = (n : Int) := by rw [mask32 n (by omega), Nat.mod_eq_of_lt (by omega)]
 have d1 : (n : Int) / 4294967296 = 0 := by omega
 go_enter Try.func119, Try.ntmps119
 go_wp2
 go_ret2
 exact ⟨by simp [m1, m2, m0, d1], rfl⟩
end Go.Proofs.Ytkblockodaiigaa
