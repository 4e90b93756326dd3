/- Spots that are traced to points: plain laws, and the program's and the reference's small functions. -/
import Derived.Test.YtabfaobakmjiaaaGreatPk45
import Derived.Test.YtabfaobakmjiaaaGreatPk46
import Derived.Lib.MinMax
namespace Go.Proofs.YtabfaobakmjiaaaGreat
set_option maxRecDepth 100000
open Go.RowKit
set_option linter.unusedVariables false
set_option linter.unusedSimpArgs false
theorem belT {w W : World} (h : Below w.heap.size w W) {V : World} (k : Below W.heap.size W V) : Below w.heap.size w V := h.trans (k.mono h.size)
structure Tra where
 path : Nat
 fr : Nat
 q : Nat
 bk : Bool
deriving Inhabited
def qAs (t : Tra) : List Value := [.int .i64 (t.path : Int), .int .i64 (t.fr : Int), .int .i64 (t.q : Int), .bool t.bk]
def traV (t : Tra) : Value := .agg #[.int .i64 (t.path : Int), .int .i64 (t.fr : Int), .int .i64 (t.q : Int), .bool t.bk]
abbrev TraL := SV 4 qAs
abbrev Sp := Int × Int
def rotP (x : Sp) : Nat → Sp
 | 0 => x
 | n + 1 => (-(rotP x n).2, (rotP x n).1)
theorem qFV {x : Sp} {m : Int} (h : (-m ≤ x.1 ∧ x.1 ≤ m) ∧ (-m ≤ x.2 ∧ x.2 ≤ m)) : ∀ n, (-m ≤ (rotP x n).1 ∧ (rotP x n).1 ≤ m) ∧ (-m ≤ (rotP x n).2 ∧ (rotP x n).2 ≤ m)
 | 0 => h
 | n + 1 => by
  have := qFV h n;unfold rotP;dsimp only;omega
def idxT (n fr : Nat) (bk : Bool) (k : Nat) : Nat := ((if bk then (fr : Int) - (k : Int) else (fr : Int) + (k : Int)) % (n : Int)).toNat
theorem qD8 {n fr : Nat} {bk : Bool} {k : Nat} (hn : 0 < n) : ((idxT n fr bk k : Nat) : Int) = (if bk then (fr : Int) - (k : Int) else (fr : Int) + (k : Int)) % (n : Int) := by
 unfold idxT;exact Int.toNat_of_nonneg (Int.emod_nonneg _ (by omega))
theorem qJ5 {n fr : Nat} {bk : Bool} {k : Nat} (hn : 0 < n) : idxT n fr bk k < n := by
 have h1 := qD8 (fr := fr) (bk := bk) (k := k) hn;have h2 := Int.emod_lt_of_pos (if bk then (fr : Int) - (k : Int) else (fr : Int) + (k : Int)) (show (0 : Int) < (n : Int) by omega);omega
theorem qKw {n fr : Nat} {bk : Bool} (h : fr < n) : idxT n fr bk 0 = fr := by
 have h1 := qD8 (fr := fr) (bk := bk) (k := 0) (show 0 < n by omega);have h2 : (if bk then (fr : Int) - ((0 : Nat) : Int) else (fr : Int) + ((0 : Nat) : Int)) = (fr : Int) := by cases bk <;> simp
 rw [h2, Int.emod_eq_of_lt (by omega) (by omega)] at h1;omega
theorem qKx {n fr : Nat} {bk : Bool} {k : Nat} (hn : 0 < n) : idxT n fr bk (k + 1) = (idxT n fr bk k + (if bk then n - 1 else 1)) % n := by
 have h1 := qD8 (fr := fr) (bk := bk) (k := k) hn;have h2 := qD8 (fr := fr) (bk := bk) (k := k + 1) hn;have h3 : (((idxT n fr bk k + (if bk then n - 1 else 1)) % n : Nat) : Int) = ((idxT n fr bk k : Nat) + ((if bk then n - 1 else 1 : Nat) : Int)) % (n : Int) := by rw [Int.natCast_emod, Int.natCast_add]
 have h4 : ((idxT n fr bk (k + 1) : Nat) : Int) = (((idxT n fr bk k + (if bk then n - 1 else 1)) % n : Nat) : Int) := by
  rw [h2, h3, h1, Int.emod_add_emod]
  cases bk with
  | true =>
   simp only [if_true];rw [show (fr : Int) - (k : Int) + ((n - 1 : Nat) : Int) = (fr : Int) - ((k + 1 : Nat) : Int) + (n : Int) by omega, Int.add_emod_right]
  | false =>
   simp only [Bool.false_eq_true, if_false];exact congrArg (· % (n : Int)) (by omega)
 omega
def qFW (a b : Sp) (t : Int) : Bool := (qAJ (a.1 - b.1) (-t) t) && qAJ (a.2 - b.2) (-t) t
def qGi (P seen : List Sp) (t : Int) (w : Tra) (k : Nat) : Bool := qFW (rotP (P.getD (idxT P.length w.fr w.bk k) default) w.q) (seen.getD k default) t
def fitT (P seen : List Sp) (t : Int) (w : Tra) : Bool := (List.range seen.length).all (qGi P seen t w)
theorem qJ6 {P seen : List Sp} {t : Int} {w : Tra} {k : Nat} (hk : k < seen.length) (h : qGi P seen t w k = false) : fitT P seen t w = false := by
 rw [Bool.eq_false_iff];intro h9;rw [fitT, List.all_eq_true] at h9;rw [h9 k (List.mem_range.2 hk)] at h
 cases h
theorem qIw {P seen : List Sp} {t : Int} {w : Tra} (h : ∀ k, k < seen.length → qGi P seen t w k = true) : fitT P seen t w = true := by
 rw [fitT, List.all_eq_true];exact fun k hk => h k (List.mem_range.1 hk)
def wayK (path : Nat) (k : Nat) : Tra := ⟨path, k / 8, k / 2 % 4, k % 2 == 1⟩
def qAh (path n : Nat) : List Tra := (List.range n).map (wayK path)
theorem qEf (path n : Nat) : qAh path (n + 1) = qAh path n ++ [wayK path n] := by unfold qAh; rw [List.range_succ, List.map_append]; rfl
theorem qC1 (path n : Nat) : (qAh path n).length = n := by simp [qAh]
theorem qKy (path : Nat) {a b : Nat} (h : a ≤ b) : qAh path a <+: qAh path b := by
 induction h with
 | refl => exact List.prefix_rfl
 | step _ ih => exact ih.trans (by rw [qEf]; exact List.prefix_append _ _)
def gotT (P seen : List Sp) (t : Int) (L : List Tra) : List Tra := L.filter (fitT P seen t)
theorem qHi (P seen : List Sp) (t : Int) (L : List Tra) (x : Tra) : gotT P seen t (L ++ [x]) = gotT P seen t L ++ (if fitT P seen t x then [x] else []) := by
 unfold gotT;rw [List.filter_append]
 congr 1
 cases h : fitT P seen t x <;> simp [h]
theorem qHO (P seen : List Sp) (t : Int) (L : List Tra) : (gotT P seen t L).length ≤ L.length := List.length_filter_le _ _
noncomputable def qBJ (paths : List (List ArmA)) (n : Int) (seen : List Sp) (t : Int) : Nat → Except Int (List Tra)
 | 0 => .ok []
 | i + 1 => match qBJ paths n seen t i with
  | .error e => .error e
  | .ok L => match qA9 (paths.getD i []) n with
   | .error e => .error e
   | .ok P => .ok (L ++ gotT P seen t (qAh i (8 * P.length)))
def farB (x : Sp) : Bool := !(qAJ x.1 (-10000) 10000 && qAJ x.2 (-10000) 10000)
def trcA (paths : List (List ArmA)) (n : Int) (seen : List Sp) (t : Int) : Bool := qAJ paths.length 1 8 && (qAJ n 1 16 && (qAJ seen.length 1 (4 * n) && (qAJ t 0 1000 && seen.all fun x => !farB x)))
noncomputable def qCN (paths : List (List ArmA)) (n : Int) (seen : List Sp) (t : Int) : Except Int (List Tra) :=
 if trcA paths n seen t then (match qBJ paths n seen t paths.length with
  | .error e => .error e
  | .ok L => if L = [] then .error 6 else .ok L) else .error 2
theorem qF9 {paths : List (List ArmA)} {n : Int} {seen : List Sp} {t : Int} {i : Nat} {L : List Tra} {z : Int} (h : qBJ paths n seen t i = .ok L) (hp : qA9 (paths.getD i []) n = .error z) : ∀ j, i < j → qBJ paths n seen t j = .error z := by
 have h1 : qBJ paths n seen t (i + 1) = .error z := by
  show (match qBJ paths n seen t i with
   | .error e => Except.error e
   | .ok L => match qA9 (paths.getD i []) n with
    | .error e => .error e
    | .ok P => .ok (L ++ gotT P seen t (qAh i (8 * P.length)))) = _
  rw [h, hp]
 intro j hj;obtain ⟨d, rfl⟩ : ∃ d, j = i + 1 + d := ⟨j - (i + 1), by omega⟩;clear hj
 induction d with
 | zero => exact h1
 | succ d ih =>
  show (match qBJ paths n seen t (i + 1 + d) with
   | .error e => Except.error e
   | .ok L => match qA9 (paths.getD (i + 1 + d) []) n with
    | .error e => .error e
    | .ok P => .ok (L ++ gotT P seen t (qAh (i + 1 + d) (8 * P.length)))) = _
  rw [ih]
theorem qGj {paths : List (List ArmA)} {n : Int} {seen : List Sp} {t : Int} {i : Nat} {L : List Tra} {P : List Sp} (h : qBJ paths n seen t i = .ok L) (hp : qA9 (paths.getD i []) n = .ok P) : qBJ paths n seen t (i + 1) = .ok (L ++ gotT P seen t (qAh i (8 * P.length))) := by
 show (match qBJ paths n seen t i with
  | .error e => Except.error e
  | .ok L => match qA9 (paths.getD i []) n with
   | .error e => .error e
   | .ok P => .ok (L ++ gotT P seen t (qAh i (8 * P.length)))) = _
 rw [h, hp]
theorem qL4 {x : FracA × FracA} {s : Sp} (h : qBB x = .ok s) : (-10000 ≤ s.1 ∧ s.1 ≤ 10000) ∧ (-10000 ≤ s.2 ∧ s.2 ≤ 10000) := by
 unfold qBB at h
 split at h
 ·cases h
 ·split at h
  ·cases h
  ·split at h
   ·rename_i h3;injection h with h;rw [← h];exact h3
   ·cases h
theorem qHj {l : List ArmA} {n : Nat} : ∀ {m : Nat} {L : List Sp}, qBA l n m = .ok L → ∀ s ∈ L, (-10000 ≤ s.1 ∧ s.1 ≤ 10000) ∧ (-10000 ≤ s.2 ∧ s.2 ≤ 10000)
 | 0, L, h, s, hs => by injection h with h; rw [← h] at hs; cases hs
 | m + 1, L, h, s, hs => by
  unfold qBA at h
  split at h
  ·cases h
  ·rename_i L' h'
   split at h
   ·cases h
   ·rename_i x hx;injection h with h;rw [← h] at hs
    rcases List.mem_append.1 hs with hs | hs
    ·exact qHj h' s hs
    ·rw [List.mem_singleton.1 hs];unfold qBX at hx
     split at hx
     ·cases hx
     ·exact qL4 hx
theorem qEg {l : List ArmA} {n : Int} {P : List Sp} (h : qA9 l n = .ok P) : (1 ≤ n ∧ n ≤ 16) ∧ (P.length : Int) = 4 * n ∧ ∀ s ∈ P, (-10000 ≤ s.1 ∧ s.1 ≤ 10000) ∧ (-10000 ≤ s.2 ∧ s.2 ≤ 10000) := by
 unfold qA9 at h
 split at h
 ·cases h
 ·split at h
  ·rename_i h1;exact ⟨h1, by rw [qCd h]; omega, qHj h⟩
  ·cases h
theorem qEh {paths : List (List ArmA)} {n : Int} {seen : List Sp} {t : Int} (hn : 1 ≤ n ∧ n ≤ 16) : ∀ {i : Nat} {L : List Tra}, qBJ paths n seen t i = .ok L → L.length ≤ i * 512
 | 0, L, h => by injection h with h; rw [← h]; simp
 | i + 1, L, h => by
  unfold qBJ at h
  split at h
  ·cases h
  ·rename_i L' h'
   split at h
   ·cases h
   ·rename_i P hp;injection h with h;have ih := qEh hn h';have hl : P.length ≤ 64 := by have h9 := (qEg hp).2.1; omega
    have := qHO P seen t (qAh i (8 * P.length));rw [qC1] at this;rw [← h, List.length_append, Nat.add_mul];omega
theorem SpotsV.at {w : World} {v : Value} {L : List Sp} (h : SpotsV w v L) {j : Nat} (hj : j < L.length) : ∃ b off c, v = .slice (some ⟨b, off, none⟩) L.length c ∧ b < w.heap.size ∧ w.cell? ⟨b, off + j * 2, none⟩ = some (.int .i64 L[j].1) ∧ w.cell? ⟨b, off + j * 2 + 1, none⟩ = some (.int .i64 L[j].2) := by
 obtain ⟨A, c, rfl, h1, h2⟩ := h;obtain ⟨b, off, rfl, hb, hc⟩ := h2 (by omega);exact ⟨b, off, c, rfl, hb, hc j hj⟩
theorem SpotsV.form {w : World} {v : Value} {L : List Sp} (h : SpotsV w v L) : ∃ A c, v = .slice A L.length c ∧ L.length ≤ 1000 := by
 obtain ⟨A, c, rfl, h1, h2⟩ := h;exact ⟨A, c, rfl, h1⟩
theorem qDK (n lo hi : Int) (w : World) : Calls Tryz.prog 28 #[.int .i64 n, .int .i64 lo, .int .i64 hi] w fun e w' => e = .returned (.bool (qAJ n lo hi)) ∧ w = w' := by
 by_cases h1 : lo ≤ n
 ·by_cases h2 : n ≤ hi
  ·have hr : qAJ n lo hi = true := by unfold qAJ; rw [decide_eq_true h1, decide_eq_true h2]; rfl
   have hr' := hyd1 hr;clear hr;go_enter Tryz.func28, Tryz.ntmps28;go_wp2;go_ret;exact ⟨by rw [hr'.out]; rfl, rfl⟩
  ·have hr : qAJ n lo hi = false := by unfold qAJ; rw [decide_eq_true h1, decide_eq_false h2]; rfl
   have hr' := hyd1 hr;clear hr;go_enter Tryz.func28, Tryz.ntmps28;go_wp2;go_ret;exact ⟨by rw [hr'.out]; rfl, rfl⟩
 ·have hr : qAJ n lo hi = false := by unfold qAJ; rw [decide_eq_false h1]; rfl
  have hr' := hyd1 hr;clear hr;go_enter Tryz.func28, Tryz.ntmps28;go_wp2;go_ret;exact ⟨by rw [hr'.out]; rfl, rfl⟩
theorem qBf (n lo hi : Int) (w : World) : Calls Tryz.prog 32 #[.int .i64 n, .int .i64 lo, .int .i64 hi] w fun e w' => e = .returned (.bool (qAJ n lo hi)) ∧ w = w' := by
 by_cases h1 : lo ≤ n
 ·by_cases h2 : n ≤ hi
  ·have hr : qAJ n lo hi = true := by unfold qAJ; rw [decide_eq_true h1, decide_eq_true h2]; rfl
   have hr' := hyd1 hr;clear hr;go_enter Tryz.func32, Tryz.ntmps32;go_wp2;go_ret;exact ⟨by rw [hr'.out]; rfl, rfl⟩
  ·have hr : qAJ n lo hi = false := by unfold qAJ; rw [decide_eq_true h1, decide_eq_false h2]; rfl
   have hr' := hyd1 hr;clear hr;go_enter Tryz.func32, Tryz.ntmps32;go_wp2;go_ret;exact ⟨by rw [hr'.out]; rfl, rfl⟩
 ·have hr : qAJ n lo hi = false := by unfold qAJ; rw [decide_eq_false h1]; rfl
  have hr' := hyd1 hr;clear hr;go_enter Tryz.func32, Tryz.ntmps32;go_wp2;go_ret;exact ⟨by rw [hr'.out]; rfl, rfl⟩
theorem qGk (a b m : Int) (w : World) (ha : -1000000 ≤ a ∧ a ≤ 1000000) (hb : -1000000 ≤ b ∧ b ≤ 1000000) (hm : 0 ≤ m ∧ m ≤ 1000) : Calls Tryz.prog 69 #[.int .i64 a, .int .i64 b, .int .i64 m] w fun e w' => e = .returned (.bool (qAJ (a - b) (-m) m)) ∧ w = w' := by
 have kw := fun W => qBf (a - b) (-m) m W;obtain ⟨R, hR⟩ : ∃ R, qAJ (a - b) (-m) m = R := ⟨_, rfl⟩;rw [hR] at kw ⊢;have ⟨kw', hR'⟩ := hyd2 kw hR;clear hR kw;go_enter Tryz.func69, Tryz.ntmps69;go_wp2_with (first | (go_at_call 32; ((with_reducible refine (kw'.out _).mono ?_); rintro e w' ⟨rfl, rfl⟩)));go_ret;exact ⟨rfl, rfl⟩
end Go.Proofs.YtabfaobakmjiaaaGreat
