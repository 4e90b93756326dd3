/- Contracts of package rosette (layer 3): Check, CheckRubber and their kin. rosette.picked: for each step what is picked among the offsets of a rubber. Contracts of package rosette: lifted, under, both, made, Lift, Under. Contracts of package rosette: turned, matches, Period. Plain laws of lifts: a lift's height is the greatest of heights less drops; a lift is a rosette again. Plain laws of turning: the period is the least turn that changes nothing. -/
import Derived.Test.YtphdalgaemefoaaGreatStd
import Derived.Test.YtphdalgaemefoaaGreatRf
import Derived.Test.YtphdalgaemefoaaGreatBoxKit
import Derived.Laws.BitsAllLaws
import Derived.Laws.BitsLemmas
namespace Go.Proofs.YtphdalgaemefoaaGreat
set_option maxRecDepth 100000
set_option maxHeartbeats 4000000
open Go.RowKit
set_option linter.unusedVariables false
set_option linter.unusedSimpArgs false

def heightB (x : Int) : Bool := within x 0 10000
def rosOk (f : List Int) : Bool := decide (3 ≤ f.length) && (decide (f.length ≤ 96) && f.all heightB)
def rubOk (b : List Int) (n : Int) : Bool := decide (b.length % 2 = 1) && (decide ((b.length : Int) ≤ n) && (decide (b.length ≤ 31) && (b.all heightB && decide (b.getD (b.length / 2) 0 ≤ 0))))
theorem all_any (zs : List Int) (p : Int → Bool) : zs.any (fun x => !p x) = !zs.all p := by
 induction zs with
 | nil => rfl
 | cons x r ih => simp only [List.any_cons, List.all_cons, ih, Bool.not_and]

theorem pf_ros_odd (n : Int) (w : World) : Calls Tryz.prog 52 #[.int .i64 n] w fun e w' => e = .returned (.bool (!heightB n)) ∧ w = w' := by
 unfold heightB
 by_cases h1 : n < 0
 ·have h2 : within n 0 10000 = false := within_not.2 (by omega)
  rw [h2]
  go_enter Tryz.func52, Tryz.ntmps52
  go_wp2
  go_ret
  simp [h1]
 ·by_cases h3 : n ≤ 10000
  ·have h2 : within n 0 10000 = true := within_iff.2 (by omega)
   rw [h2]
   go_enter Tryz.func52, Tryz.ntmps52
   go_wp2
   go_ret
   simp [h1, h3]
  ·have h2 : within n 0 10000 = false := within_not.2 (by omega)
   rw [h2]
   have h4 : 10000 < n := by omega
   go_enter Tryz.func52, Tryz.ntmps52
   go_wp2
   go_ret
   simp [h4]
theorem pf_ros_odd' (n : Int) (w : World) : Calls Tryz.prog 52 (#[.int .i64 n] ++ #[]) w fun e w' => e = .returned (.bool (!heightB n)) ∧ w = w' := by
 rw [Array.append_empty]; exact pf_ros_odd n w
theorem plain_ros_odd : Plain Tryz.prog 52 := fun _ _ => by kernel_rfl
theorem pf_ros_any (v : Value) (zs : List Int) (w : World) (hv : Ints w v zs) :
  Calls Tryz.prog 29 #[v, .func (.func 52) #[] #[]] w fun e w' => e = .returned (.bool (!zs.all heightB)) ∧ w = w' := by
 have h := pf_ContainsFunc (fun x => !heightB x) 52 #[] v zs w hv plain_ros_odd (fun x _ => pf_ros_odd' x _)
 rw [all_any] at h
 exact h
theorem pf_ros_Check (v : Value) (f : List Int) (w : World) (hv : Ints w v f) (B : Bool) (hB : rosOk f = B) :
  Calls Tryz.prog 25 #[v] w fun e w' => e = .returned (.int .i64 (if B then 0 else 30)) ∧ w = w' := by
 have hv0 := Lib.hid hv
 obtain ⟨A, c, rfl, hlc, hcm, _, hr⟩ := hv
 unfold maxLen at hcm
 clear hr
 unfold rosOk at hB
 by_cases h1 : 3 ≤ f.length
 ·rw [decide_eq_true h1, Bool.true_and] at hB
  by_cases h2 : f.length ≤ 96
  ·rw [decide_eq_true h2, Bool.true_and] at hB
   have hB' := hyd1 hB
   clear hB
   have e1 : ((f.length : Int) < 3) = False := by simp; omega
   have e2 : ((96 : Int) < (f.length : Int)) = False := by simp; omega
   clear h1 h2
   cases B
   all_goals
    go_enter Tryz.func25, Tryz.ntmps25
    go_wp2_with (first | (go_at_call 29; refine (pf_ros_any _ f _ hv0.out).mono ?_; rintro e w' ⟨rfl, rfl⟩; rw [hB'.out]))
    go_ret
    exact ⟨rfl, rfl⟩
  ·rw [decide_eq_false h2, Bool.false_and] at hB
   subst hB
   go_enter Tryz.func25, Tryz.ntmps25
   go_wp2
   go_ret
   exact ⟨rfl, rfl⟩
 ·rw [decide_eq_false h1, Bool.false_and] at hB
  subst hB
  go_enter Tryz.func25, Tryz.ntmps25
  go_wp2
  go_ret
  exact ⟨rfl, rfl⟩
theorem and_one (n : Nat) (h : n < 9223372036854775808) : bits .and .i64 (n : Int) 1 = ((n % 2 : Nat) : Int) := by
 have e : (BitVec.ofInt 64 (n : Int)).toNat = n := by rw [BitVec.ofInt_natCast, BitVec.toNat_ofNat]; exact Nat.mod_eq_of_lt (by omega)
 show IntKind.i64.wrap ((BitVec.ofInt 64 (n : Int) &&& BitVec.ofInt 64 (1 : Int)).toNat : Int) = _
 rw [BitVec.toNat_and, e]
 have e1 : (BitVec.ofInt 64 (1 : Int)).toNat = 1 := by decide
 rw [e1, Nat.and_one_is_mod, IntKind.wrap_i64]
 omega
theorem pf_ros_CheckRubber (v : Value) (b : List Int) (n : Int) (w : World) (hv : Ints w v b) (B : Bool) (hB : rubOk b n = B) :
  Calls Tryz.prog 26 #[v, .int .i64 n] w fun e w' => e = .returned (.int .i64 (if B then 0 else 31)) ∧ w = w' := by
 have hv0 := Lib.hid hv
 obtain ⟨A, c, rfl, hlc, hcm, _, hr⟩ := hv
 unfold maxLen at hcm
 unfold rubOk at hB
 have hand := and_one b.length (by omega)
 by_cases h1 : b.length % 2 = 1
 ·rw [decide_eq_true h1, Bool.true_and] at hB
  rw [h1] at hand
  have h1' := hyd1 h1
  clear h1
  by_cases h2 : (b.length : Int) ≤ n
  ·rw [decide_eq_true h2, Bool.true_and] at hB
   by_cases h3 : b.length ≤ 31
   ·rw [decide_eq_true h3, Bool.true_and] at hB
    obtain ⟨H, hH⟩ : ∃ H, H = b.all heightB := ⟨_, rfl⟩
    rw [← hH] at hB
    have hH' := hyd1 hH
    clear hH
    cases H with
    | false =>
     rw [Bool.false_and] at hB
     subst hB
     clear hr
     go_enter Tryz.func26, Tryz.ntmps26
     go_wp2_with (first | (go_at_call 29; refine (pf_ros_any _ b _ hv0.out).mono ?_; rintro e w' ⟨rfl, rfl⟩; rw [← hH'.out]))
     go_ret
     exact ⟨rfl, rfl⟩
    | true =>
     rw [Bool.true_and] at hB
     have hpos : 0 < b.length := by have := h1'.out; omega
     obtain ⟨bb, off, rfl, hbb, hc⟩ := hr hpos
     have hk : b.length / 2 < b.length := by omega
     have hck : w.cell? ⟨bb, off + b.length / 2, none⟩ = some (.int .i64 b[b.length / 2]) := hc _ hk
     have hg : b.getD (b.length / 2) 0 = b[b.length / 2] := by simp [hk]
     rw [hg] at hB
     generalize b[b.length / 2] = x at hck hB
     clear hc hr hg
     by_cases h4 : x ≤ 0
     ·rw [decide_eq_true h4] at hB
      subst hB
      go_enter Tryz.func26, Tryz.ntmps26
      go_wp2_with (first | (go_at_call 29; refine (pf_ros_any _ b _ hv0.out).mono ?_; rintro e w' ⟨rfl, rfl⟩; rw [← hH'.out]))
      go_ret
      exact ⟨rfl, rfl⟩
     ·rw [decide_eq_false h4] at hB
      subst hB
      have h4' : 0 < x := by omega
      go_enter Tryz.func26, Tryz.ntmps26
      go_wp2_with (first | (go_at_call 29; refine (pf_ros_any _ b _ hv0.out).mono ?_; rintro e w' ⟨rfl, rfl⟩; rw [← hH'.out]))
      go_ret
      exact ⟨rfl, rfl⟩
   ·rw [decide_eq_false h3, Bool.false_and] at hB
    subst hB
    clear hr
    go_enter Tryz.func26, Tryz.ntmps26
    go_wp2
    go_ret
    exact ⟨rfl, rfl⟩
  ·rw [decide_eq_false h2, Bool.false_and] at hB
   subst hB
   clear hr
   go_enter Tryz.func26, Tryz.ntmps26
   go_wp2
   go_ret
   exact ⟨rfl, rfl⟩
 ·rw [decide_eq_false h1, Bool.false_and] at hB
  subst hB
  have h0 : b.length % 2 = 0 := by omega
  rw [h0] at hand
  clear hr h1 h0
  go_enter Tryz.func26, Tryz.ntmps26
  go_wp2
  go_ret
  exact ⟨rfl, rfl⟩
end Go.Proofs.YtphdalgaemefoaaGreat
namespace Go.Proofs.YtphdalgaemefoaaGreat
set_option maxRecDepth 100000
set_option maxHeartbeats 4000000
open Go.RowKit Go.Shelf
set_option linter.unusedVariables false
set_option linter.unusedSimpArgs false
attribute [local go_sem] Oper.semAt_some
def Near (x : Int) : Prop := -20000 ≤ x ∧ x ≤ 20000
def pickX (f b : List Int) (dir : Int) (M : Int → Int → Int) (p j : Nat) : Int := M (f.getD (((p : Int) + dir * ((j : Int) - (b.length : Int) / 2)) % (f.length : Int)).toNat 0) (b.getD j 0)
def pickStep (N : Nat) (X : Nat → Int) (K : Int → Int → Int) (acc : Int) (j : Nat) : Int := if (j : Int) - (N : Int) / 2 = -((N : Int) / 2) then X j else K acc (X j)
def pickSt (N : Nat) (X : Nat → Int) (K : Int → Int → Int) (pre : List (Fin N)) : Int := (pre.map (·.1)).foldl (pickStep N X K) 0
theorem pickSt_snoc (N : Nat) (X : Nat → Int) (K : Int → Int → Int) (pre : List (Fin N)) (x : Fin N) : pickSt N X K (pre ++ [x]) = pickStep N X K (pickSt N X K pre) x.1 := by
 simp [pickSt]
def pickedP (f b : List Int) (dir : Int) (M K : Int → Int → Int) (p : Nat) : Int := pickSt b.length (pickX f b dir M p) K (List.finRange b.length)
def pickedL (f b : List Int) (dir : Int) (M K : Int → Int → Int) (k : Nat) : List Int := (List.range k).map (pickedP f b dir M K)
theorem pickedL_succ (f b : List Int) (dir : Int) (M K : Int → Int → Int) (k : Nat) : pickedL f b dir M K (k + 1) = pickedL f b dir M K k ++ [pickedP f b dir M K k] := by
 simp [pickedL, List.range_succ]
theorem pickedL_length (f b : List Int) (dir : Int) (M K : Int → Int → Int) (k : Nat) : (pickedL f b dir M K k).length = k := by simp [pickedL]

structure PickEnv (w : World) (vf vb : Value) (dir : Int) (mk pk : Nat) (wr : World) : Prop where
 b0 : wr.heap[w.heap.size]? = some (.cells #[vf] 36)
 b1 : wr.heap[w.heap.size + 1]? = some (.cells #[vb] 36)
 b2 : wr.heap[w.heap.size + 1 + 1]? = some (.cells #[.int .i64 dir] 3)
 b3 : wr.heap[w.heap.size + 1 + 1 + 1]? = some (.cells #[.func (.func mk) #[] #[]] 83)
 b4 : wr.heap[w.heap.size + 1 + 1 + 1 + 1]? = some (.cells #[.func (.func pk) #[] #[]] 83)
 below : Below w.heap.size w wr
theorem PickEnv.lt {w : World} {vf vb : Value} {dir : Int} {mk pk : Nat} {wr : World} (h : PickEnv w vf vb dir mk pk wr) : w.heap.size + 5 ≤ wr.heap.size := by
 have := (gsl h.b4); omega
theorem PickEnv.keep {w : World} {vf vb : Value} {dir : Int} {mk pk : Nat} {wr W : World} (h : PickEnv w vf vb dir mk pk wr) (hb : Below (w.heap.size + 5) wr W) : PickEnv w vf vb dir mk pk W :=
 ⟨(hb.block _ (by omega)).trans h.b0, (hb.block _ (by omega)).trans h.b1, (hb.block _ (by omega)).trans h.b2, (hb.block _ (by omega)).trans h.b3, (hb.block _ (by omega)).trans h.b4, h.below.trans (hb.mono (by omega))⟩
theorem grown_keep {W0 W W' : World} {row : Option Nat} {g : Nat} (h : W0.grownBy W (some g)) (hg : W.grownBy W' row) (hr : ∀ r, row = some r → W0.heap.size ≤ r) : W0.grownBy W' (some g) :=
 ⟨hg.os.trans h.os, hg.tape.trans h.tape, hg.output.trans h.output, Nat.le_trans h.size hg.size, fun k hk hne => (hg.block k (Nat.lt_of_lt_of_le hk h.size) (fun e => by have := hr k e.symm; omega)).trans (h.block k hk hne)⟩
theorem grown_below {W0 W : World} {g B : Nat} (h : W0.grownBy W (some g)) (hB : B ≤ g) (hB2 : B ≤ W0.heap.size) : Below B W0 W :=
 ⟨h.os, h.tape, h.output, h.size, fun k hk => h.block k (by omega) (fun e => by injection e with e; omega)⟩
theorem grown_set {W0 W : World} {g n : Nat} (h : W0.grownBy W (some g)) (u : Value) : W0.grownBy ((W.drewN n).setCell ⟨g, 0, none⟩ u) (some g) :=
 ⟨h.os, h.tape, h.output, by simpa [World.setCell] using h.size, fun k hk hne => (Below.heap_setCell _ _ _ _ (fun e => hne (by rw [e]))).trans (h.block k hk hne)⟩
theorem heap_set0 {W : World} {B n : Nat} {v u : Value} {t : TypeId} (h : W.heap[B]? = some (.cells #[v] t)) : ((W.drewN n).setCell ⟨B, 0, none⟩ u).heap[B]? = some (.cells #[u] t) := by
 have h' : (W.drewN n).heap[B]? = some (.cells #[v] t) := h
 simp only [World.setCell, Array.getElem?_modify, h']
 simp
theorem keepsDrawnSet (W : World) (n : Nat) (a : Addr) (v : Value) : KeepsOthers W ((W.drewN n).setCell a v) :=
 (show KeepsOthers W (W.drewN n) from ⟨Nat.le_refl _, fun _ _ h _ => h⟩).trans (KeepsOthers.setCell _ _ _)
theorem keptDrawnSet (n₀ : Nat) (Bs : List Nat) (W : World) (n : Nat) (g : Nat) (v : Value) (hg : n₀ ≤ g) (hB : ∀ B ∈ Bs, B ≠ g) : Kept n₀ Bs W ((W.drewN n).setCell ⟨g, 0, none⟩ v) :=
 ⟨(below_drewN' (Below.refl _ W) n).setCell (p := ⟨g, 0, none⟩) hg v, fun B hb => Below.heap_setCell _ _ _ _ (hB B hb)⟩
theorem quiet_same' {P : Program} {f : FuncId} {args : Array Value} {W : World} {n : Nat} {v : Value} (h : Calls P f args (W.drewN n) fun e w' => e = .returned v ∧ W.drewN n = w') :
  Calls P f args (W.drewN n) fun e w'' => e = .returned v ∧ ∃ m, w'' = W.drewN m := h.mono fun _ _ ⟨he, hw⟩ => ⟨he, n, hw.symm⟩
def PickRel (f b : List Int) (A A' : Option Addr) (c c' : Nat) (dir : Int) (mk pk : Nat) (M K : Int → Int → Int) (w : World) (a : Act) (wr : World) : Prop :=
 ∃ (k : Nat) (ds : List Deferred) (u11 u12 u13 u14 u15 u16 u20 u21 u22 u23 u24 u25 u26 u27 u28 u29 u30 u31 u32 u33 u34 u35 u36 u37 u38 u39 u40 u41 u42 u43 u44 u45 u46 u47 u48 u49 u50 u51 u52 u53 u54 u55 u56 : Value), a = { tmps := #[.slice A f.length c, .slice A' b.length c', .int .i64 dir, .func (.func mk) #[] #[], .func (.func pk) #[] #[], .pointer (some ⟨w.heap.size, 0, none⟩), .pointer (some ⟨w.heap.size + 1, 0, none⟩), .pointer (some ⟨w.heap.size + 1 + 1, 0, none⟩), .pointer (some ⟨w.heap.size + 1 + 1 + 1, 0, none⟩), .pointer (some ⟨w.heap.size + 1 + 1 + 1 + 1, 0, none⟩), .slice none 0 0, u11, u12, u13, u14, u15, u16, .slice A f.length c, .int .i64 f.length, .int .i64 k, u20, u21, u22, u23, u24, u25, u26, u27, u28, u29, u30, u31, u32, u33, u34, u35, u36, u37, u38, u39, u40, u41, u42, u43, u44, u45, u46, u47, u48, u49, u50, u51, u52, u53, u54, u55, u56], defers := ds } ∧ k ≤ f.length ∧
  PickEnv w (.slice A f.length c) (.slice A' b.length c') dir mk pk wr ∧ Marks (w.heap.size + 5) wr ds ∧
  wr.ownsRow (w.heap.size + 5) 3 1 u11 (pickedL f b dir M K k).length ((pickedL f b dir M K k).map vint)
theorem pickStart (f b : List Int) (A A' : Option Addr) (c c' : Nat) (dir : Int) (mk pk : Nat) (w : World) :
  PickEnv w (.slice A f.length c) (.slice A' b.length c') dir mk pk (((((w.alloc (.cells #[.slice A f.length c] 36)).alloc (.cells #[.slice A' b.length c'] 36)).alloc (.cells #[.int .i64 dir] 3)).alloc (.cells #[.func (.func mk) #[] #[]] 83)).alloc (.cells #[.func (.func pk) #[] #[]] 83)) := by
 refine ⟨?_, ?_, ?_, ?_, ?_, (alc4 w _ _ _ _).alloc (by simp; omega) _⟩
 ·exact (Below.heap_alloc _ _ _ (by simp <;> omega)).trans ((Below.heap_alloc _ _ _ (by simp <;> omega)).trans ((Below.heap_alloc _ _ _ (by simp <;> omega)).trans ((Below.heap_alloc _ _ _ (by simp)).trans (heap_alloc_new _ _))))
 ·exact (Below.heap_alloc _ _ _ (by simp <;> omega)).trans ((Below.heap_alloc _ _ _ (by simp <;> omega)).trans ((Below.heap_alloc _ _ _ (by simp)).trans (by have h := heap_alloc_new (w.alloc (.cells #[.slice A f.length c] 36)) (.cells #[.slice A' b.length c'] 36); rw [World.size_alloc] at h; exact h)))
 ·exact (Below.heap_alloc _ _ _ (by simp <;> omega)).trans ((Below.heap_alloc _ _ _ (by simp)).trans (by have h := heap_alloc_new ((w.alloc (.cells #[.slice A f.length c] 36)).alloc (.cells #[.slice A' b.length c'] 36)) (.cells #[.int .i64 dir] 3); rw [World.size_alloc, World.size_alloc] at h; exact h))
 ·exact (Below.heap_alloc _ _ _ (by simp)).trans (by have h := heap_alloc_new (((w.alloc (.cells #[.slice A f.length c] 36)).alloc (.cells #[.slice A' b.length c'] 36)).alloc (.cells #[.int .i64 dir] 3)) (.cells #[.func (.func mk) #[] #[]] 83); rw [World.size_alloc, World.size_alloc, World.size_alloc] at h; exact h)
 ·have h := heap_alloc_new ((((w.alloc (.cells #[.slice A f.length c] 36)).alloc (.cells #[.slice A' b.length c'] 36)).alloc (.cells #[.int .i64 dir] 3)).alloc (.cells #[.func (.func mk) #[] #[]] 83)) (.cells #[.func (.func pk) #[] #[]] 83)
  rw [World.size_alloc, World.size_alloc, World.size_alloc, World.size_alloc] at h
  exact h

theorem pf_picked (f b : List Int) (vf vb : Value) (w : World) (hf : Ints w vf f) (hb : Ints w vb b) (dir : Int) (mk pk : Nat) (M K : Int → Int → Int)
  (hfo : rosOk f = true) (hbo : rubOk b f.length = true) (hdir : dir = 1 ∨ dir = -1)
  (hmk : Plain Tryz.prog mk) (hpk : Plain Tryz.prog pk)
  (hM : ∀ h d W, 0 ≤ h ∧ h ≤ 10000 → 0 ≤ d ∧ d ≤ 10000 → Calls Tryz.prog mk #[.int .i64 h, .int .i64 d] W (fun e w' => e = .returned (.int .i64 (M h d)) ∧ W = w'))
  (hMn : ∀ h d, 0 ≤ h ∧ h ≤ 10000 → 0 ≤ d ∧ d ≤ 10000 → Near (M h d))
  (hK : ∀ x y W, Near x → Near y → Calls Tryz.prog pk #[.int .i64 x, .int .i64 y] W (fun e w' => e = .returned (.int .i64 (K x y)) ∧ W = w'))
  (hKn : ∀ x y, Near x → Near y → Near (K x y)) :
  Calls Tryz.prog 74 #[vf, vb, .int .i64 dir, .func (.func mk) #[] #[], .func (.func pk) #[] #[]] w fun e w' => ∃ v', e = .returned v' ∧ Below w.heap.size w w' ∧
   w'.ownsRow w.heap.size 3 1 v' (pickedL f b dir M K f.length).length ((pickedL f b dir M K f.length).map vint) := by
 refine (callsIn_wide (n := 5)).1 ?_
 refine callsIn_of_wp_marks Tryz.func74 rfl trivial ?_ rfl
 have hf0 := Lib.hid hf
 have hb0 := Lib.hid hb
 obtain ⟨A, c, rfl, hlc, hcm, _, hr⟩ := hf
 obtain ⟨A', c', rfl, hlc', hcm', _, hr'⟩ := hb
 unfold maxLen at hcm hcm'
 have hr1 := Lib.hid hr
 have hr2 := Lib.hid hr'
 clear hr hr'
 simp only [Tryz.ntmps74, List.size_toArray, List.length_cons, List.length_nil, Nat.reduceAdd, Nat.reduceSub, Array.replicate_succ, Array.replicate_zero, List.push_toArray, List.append_toArray, List.nil_append, List.cons_append]
 gi_wp2
 refine wpIn_loop (PickRel f b A A' c c' dir mk pk M K w) (fun a _ => f.length - (intOf (a.tmps.getD 19 undef)).toNat) ?start ?round
 case start => exact ⟨0, [], _, _, _, _, _, _, _, _, _, _, _, _, _, _, _, _, _, _, _, _, _, _, _, _, _, _, _, _, _, _, _, _, _, _, _, _, _, _, _, _, _, _, _, rfl, Nat.zero_le _, pickStart f b A A' c c' dir mk pk w, trivial, World.ownsRow_nil _ _ _ _⟩
 case round =>
  rintro a wr ⟨k, ds, u11, u12, u13, u14, u15, u16, u20, u21, u22, u23, u24, u25, u26, u27, u28, u29, u30, u31, u32, u33, u34, u35, u36, u37, u38, u39, u40, u41, u42, u43, u44, u45, u46, u47, u48, u49, u50, u51, u52, u53, u54, u55, u56, rfl, hk, env, hm, hown⟩
  have ⟨env', hm', hown'⟩ := hyd3 env hm hown
  have hwz := env.lt
  have hflen : 3 ≤ f.length ∧ f.length ≤ 96 ∧ f.all heightB = true := by
   unfold rosOk at hfo
   simp only [Bool.and_eq_true, decide_eq_true_eq] at hfo
   exact ⟨hfo.1, hfo.2.1, hfo.2.2⟩
  have hblen : b.length % 2 = 1 ∧ b.length ≤ 31 ∧ b.all heightB = true := by
   unfold rubOk at hbo
   simp only [Bool.and_eq_true, decide_eq_true_eq] at hbo
   exact ⟨hbo.1, hbo.2.2.1, hbo.2.2.2.1⟩
  obtain ⟨hf1, hf2, hfh⟩ := hflen
  obtain ⟨hb1, hb2, hbh⟩ := hblen
  have ⟨hfh', hbh'⟩ := hyd2 hfh hbh
  have hbodd := Lib.hid hb1
  clear env hm hown hfh hbh hb1 hfo hbo
  by_cases hlt : k < f.length
  ·have c1 : ∀ o o', ((wr.alloc o).alloc o').cell? ⟨w.heap.size + 1, 0, none⟩ = some (.slice A' b.length c') := fun o o' =>
    (World.cell?_alloc_past _ _ _ (by simp; omega)).trans ((World.cell?_alloc_past _ _ _ (by omega)).trans (cell0 env'.out.b1))
   gi_wp2_with (refine ⟨trivial, ?_⟩; gi_at_call 85; refine (callsIn_wide.2 (pf_offsets _ _ _ _)).mono ?_; rintro e w' ⟨rfl, rfl⟩)
   obtain ⟨W0, hW0⟩ : ∃ W0, (((wr.alloc (.cells #[.int .i64 k] 3)).alloc (.cells #[.int .i64 0] 3)).alloc (.cells #[.slice A' b.length c'] 36)) = W0 := ⟨_, rfl⟩
   rw [hW0]
   have hsz : W0.heap.size = wr.heap.size + 1 + 1 + 1 := by rw [← hW0]; simp
   have hBW : Below wr.heap.size wr W0 := by rw [← hW0]; exact alc3 _ _ _ _
   have hP : W0.heap[wr.heap.size]? = some (.cells #[.int .i64 k] 3) := by
    rw [← hW0]; exact (Below.heap_alloc _ _ _ (by simp <;> omega)).trans ((Below.heap_alloc _ _ _ (by simp)).trans (heap_alloc_new _ _))
   have hBs : W0.heap[wr.heap.size + 1]? = some (.cells #[.int .i64 0] 3) := by
    rw [← hW0]; exact (Below.heap_alloc _ _ _ (by simp)).trans (by have h := heap_alloc_new (wr.alloc (.cells #[.int .i64 k] 3)) (.cells #[.int .i64 0] 3); rw [World.size_alloc] at h; exact h)
   have hO : W0.heap[wr.heap.size + 1 + 1]? = some (.cells #[.slice A' b.length c'] 36) := by
    rw [← hW0]; have h := heap_alloc_new ((wr.alloc (.cells #[.int .i64 k] 3)).alloc (.cells #[.int .i64 0] 3)) (.cells #[.slice A' b.length c'] 36); rw [World.size_alloc, World.size_alloc] at h; exact h
   have env0 : PickEnv w (.slice A f.length c) (.slice A' b.length c') dir mk pk W0 := env'.out.keep (hBW.mono (by omega))
   clear hW0 c1
   have hyield := offsets1_yields b (.slice A' b.length c') w W0 (wr.heap.size + 1 + 1) (w.heap.size + 5) hb0.out (by omega) (by omega) (by omega) (by omega) env0.below (cell0 hO)
   refine wpIn_rangeFunc_ownF rfl (by omega) (gf := 91) (lb := #[.pointer (some ⟨wr.heap.size + 1 + 1, 0, none⟩)]) rfl trivial (enters_of Tryz.func91 (by kernel_rfl) rfl)
    hyield Kept.trans (Kept.put (by omega) (by simp; omega)) (Below.refl _ _) (fun _ => rfl)
    (fun pre W => W0.grownBy W (some (wr.heap.size + 1)) ∧ W.heap[wr.heap.size + 1]? = some (.cells #[.int .i64 (pickSt b.length (pickX f b dir M k) K pre)] 3) ∧ Near (pickSt b.length (pickX f b dir M k) K pre))
    (fun _ _ _ => False)
    ?own (fun _ _ _ _ _ hs _ _ => hs) ⟨World.grownBy.refl _ _, hBs, by unfold Near; simp [pickSt]⟩
    (fun x => { tmps := #[.slice A f.length c, .slice A' b.length c', .int .i64 dir, .func (.func mk) #[] #[], .func (.func pk) #[] #[], .pointer (some ⟨w.heap.size, 0, none⟩), .pointer (some ⟨w.heap.size + 1, 0, none⟩), .pointer (some ⟨w.heap.size + 1 + 1, 0, none⟩), .pointer (some ⟨w.heap.size + 1 + 1 + 1, 0, none⟩), .pointer (some ⟨w.heap.size + 1 + 1 + 1 + 1, 0, none⟩), .slice none 0 0, u11, .pointer (some ⟨wr.heap.size, 0, none⟩), .pointer (some ⟨wr.heap.size + 1, 0, none⟩), .int .i64 ((x.1 : Int) - (b.length : Int) / 2), .int .i64 b[x.1], u16, .slice A f.length c, .int .i64 f.length, .int .i64 k, .bool true, .int .i64 k, .slice A' b.length c', .func (.func 91) #[] #[.pointer (some ⟨wr.heap.size + 1 + 1, 0, none⟩)], .int .i64 ((x.1 : Int) - (b.length : Int) / 2), .int .i64 b[x.1], u26, u27, u28, u29, u30, u31, u32, u33, u34, u35, u36, u37, u38, u39, u40, u41, u42, u43, u44, u45, u46, u47, u48, u49, u50, u51, u52, u53, u54, u55, u56], defers := [] }) ?assign ?body ?done ?stop
   case own =>
    rintro s X Y row ⟨h1, h2, h3⟩ hg hrow
    refine ⟨grown_keep h1 hg fun r e => (hrow r e).1, ?_, h3⟩
    rw [hg.block (wr.heap.size + 1) ((gsl h2)) (fun e => by have := (hrow _ e.symm).1; omega)]
    exact h2
   case assign =>
    intro l x W K hK
    dsimp only [offAt]
    gi_wp2
    exact hK
   case body =>
    rintro l pre x W ⟨hg, hcell, hnear⟩ hlen
    have hWz := hg.size
    have envW := env0.keep (grown_below hg (by omega) (by omega))
    have e0 := cell0 envW.b0
    have e1 := cell0 envW.b1
    have e2 := cell0 envW.b2
    have e3 := cell0 envW.b3
    have e4 := cell0 envW.b4
    have ep := cell0 ((hg.block wr.heap.size (by omega) (by simp)).trans hP)
    have es := cell0 hcell
    have ef := frozen0 hcell 0
    have hx := x.2
    obtain ⟨jj, hjj⟩ : ∃ jj : Int, (x.1 : Int) - (b.length : Int) / 2 = jj := ⟨_, rfl⟩
    obtain ⟨yy, hyy⟩ : ∃ yy : Int, b[x.1] = yy := ⟨_, rfl⟩
    have hyb : 0 ≤ yy ∧ yy ≤ 10000 := by
     have := List.all_eq_true.1 hbh'.out _ (List.getElem_mem hx)
     rw [hyy] at this
     exact within_iff.1 this
    obtain ⟨dj, hdj⟩ : ∃ dj : Int, dir * jj = dj := ⟨_, rfl⟩
    have hjb : -16 ≤ jj ∧ jj ≤ 16 := by omega
    have hdb : -16 ≤ dj ∧ dj ≤ 16 := by rcases hdir with rfl | rfl <;> omega
    have hq0 := Int.emod_nonneg ((k : Int) + dj) (show (f.length : Int) ≠ 0 by omega)
    have hq1 := Int.emod_lt_of_pos ((k : Int) + dj) (show (0 : Int) < (f.length : Int) by omega)
    obtain ⟨q, hq⟩ : ∃ q : Nat, ((k : Int) + dj) % (f.length : Int) = (q : Int) := ⟨(((k : Int) + dj) % (f.length : Int)).toNat, by omega⟩
    have hql : q < f.length := by omega
    obtain ⟨bf, foff, rfl, hbf, hcf⟩ := hr1.out (by omega)
    have hcq : W.cell? ⟨bf, foff + q, none⟩ = some (.int .i64 f[q]) := (envW.below.cell (p := ⟨bf, foff + q, none⟩) hbf).trans (hcf q hql)
    have hhb : 0 ≤ f[q] ∧ f[q] ≤ 10000 := within_iff.1 (List.all_eq_true.1 hfh'.out _ (List.getElem_mem hql))
    have hXv : pickX f b dir M k x.1 = M f[q] yy := by
     unfold pickX
     rw [hjj, hdj, hq]
     simp [hql, hx, hyy]
    have hst := pickSt_snoc b.length (pickX f b dir M k) K pre x
    unfold pickStep at hst
    rw [hXv, hjj] at hst
    generalize f[q] = hh at hcq hhb hXv hst
    have hXn := hMn hh yy hhb hyb
    have hMc := fun W => hM hh yy W hhb hyb
    obtain ⟨xv, hxv⟩ : ∃ xv, M hh yy = xv := ⟨_, rfl⟩
    rw [hxv] at hst hXn
    simp only [hxv] at hMc
    obtain ⟨sv, hsv⟩ : ∃ sv, pickSt b.length (pickX f b dir M k) K pre = sv := ⟨_, rfl⟩
    rw [hsv] at hst hnear es
    rw [hjj, hyy]
    have i1 : (0 : Int) ≤ (q : Int) := by omega
    have i2 : (q : Int) < (f.length : Int) := by omega
    have hmk' := hmk
    have hpk' := hpk
    unfold Plain at hmk' hpk'
    have ⟨hst', hg'⟩ := hyd2 hst hg
    have hKc := fun W => hK sv xv W hnear hXn
    have hKb := hKn sv xv hnear hXn
    obtain ⟨kv, hkv⟩ : ∃ kv, K sv xv = kv := ⟨_, rfl⟩
    rw [hkv] at hKb
    simp only [hkv] at hKc
    have ⟨hkv', hMc', hKc'⟩ := hyd3 hkv hMc hKc
    have hjb1 := hjb.1
    have hjb2 := hjb.2
    have hdb1 := hdb.1
    have hdb2 := hdb.2
    have ⟨hcell', hP', hBs', hO'⟩ := hyd4 hcell hP hBs hO
    have hend : ∀ (W3 : World) (z : Int), W3 = W.setCell ⟨wr.heap.size + 1, 0, none⟩ (.int .i64 z) ∨ (∃ n, W3 = (W.drewN n).setCell ⟨wr.heap.size + 1, 0, none⟩ (.int .i64 z)) → True := fun _ _ _ => trivial
    clear hst hcell hP hBs hO hXv hxv hsv hkv hMc hKc hcf hq0 hq1 hjj hyy hend hyield envW
    by_cases hj0 : jj = -((b.length : Int) / 2)
    ·have hj1 : (jj == -((b.length : Int) / 2)) = true := by simpa using hj0
     have hfin : pickSt b.length (pickX f b dir M k) K (pre ++ [x]) = xv := by rw [hst'.out, if_pos hj0]
     have hfin' := hyd1 hfin
     clear hfin hj0
     gi_wp2
     refine wpR_region_quiet_lit (by kernel_rfl) (by kernel_rfl) (by kernel_rfl) ?_
     repeat (go_big_quiet_step ((first | (go_at_call 34; exact quiet_same' (pf_ros_around _ _ _ (by omega) (by omega) (by unfold Mid; omega))) | exact quiet_same' (hMc'.out _))))
     refine wpQuiet_nil ?_
     intro _ hw'
     obtain ⟨nq, hw''⟩ := hw'
     subst hw''
     gi_wp2
     refine ⟨keepsDrawnSet _ _ _ _, keptDrawnSet _ _ _ _ _ _ (by omega) (by simp), grown_set hg'.out _, ?_, ?_⟩
     ·rw [hfin'.out]; exact heap_set0 hcell'.out
     ·rw [hfin'.out]; exact hXn
    ·have hj1 : (jj == -((b.length : Int) / 2)) = false := by simpa using hj0
     have hfin : pickSt b.length (pickX f b dir M k) K (pre ++ [x]) = kv := by rw [hst'.out, if_neg hj0, hkv'.out]
     have hfin' := hyd1 hfin
     clear hfin hj0
     gi_wp2
     refine wpR_region_quiet_lit (by kernel_rfl) (by kernel_rfl) (by kernel_rfl) ?_
     repeat (go_big_quiet_step ((first | (go_at_call 34; exact quiet_same' (pf_ros_around _ _ _ (by omega) (by omega) (by unfold Mid; omega))) | exact quiet_same' (hMc'.out _))))
     refine wpQuiet_nil ?_
     intro _ hw'
     obtain ⟨nq, hw''⟩ := hw'
     subst hw''
     gi_wp2_with (refine ⟨trivial, ?_⟩; refine (CallsIn.inRound l (callsIn_wide.2 (hKc'.out _))).mono ?_; rintro e w' ⟨rfl, rfl⟩)
     refine ⟨keepsDrawnSet _ _ _ _, keptDrawnSet _ _ _ _ _ _ (by omega) (by simp), grown_set hg'.out _, ?_, ?_⟩
     ·rw [hfin'.out]; exact heap_set0 hcell'.out
     ·rw [hfin'.out]; exact hKb
   case done =>
    rintro D ys W hD rfl ⟨hg, hcell, hnear⟩ hDK
    have hown0 := (own_below hown'.out (hBW.mono (Nat.le_refl _))).kept hg (by
     by_cases hn : u11.ownBlock = none
     ·exact .inl hn
     ·refine .inr fun he => ?_
      have := (hown'.out.lt _ he).2
      omega)
    have hWz := hg.size
    have hbst := cell0 hcell
    have hWb : Below (w.heap.size + 5) wr W := (hBW.mono (by omega)).trans (grown_below hg (by omega) (by omega))
    have hmW : Marks (w.heap.size + 5) W ds := hm'.out.keep fun D' _ h' => by
     have hlt' := (gsl h')
     rw [hg.block D' (by omega) (fun e => by injection e with e; omega), hBW.block D' hlt']; exact h'
    have hDne : ∀ d' ∈ ds, d' ≠ ({ target := .collected D, args := #[] } : Deferred) := by
     intro d' hd' e
     subst e
     have : ∀ (l : List Deferred), Marks (w.heap.size + 5) wr l → ({ target := .collected D, args := #[] } : Deferred) ∈ l → D < wr.heap.size := by
      intro l
      induction l with
      | nil => intro _ h; cases h
      | cons x r ih =>
       rintro ⟨⟨D1, rfl, _, h1, _⟩, hr⟩ hmem
       rcases List.mem_cons.1 hmem with h | h
       ·have : D = D1 := by injection h with h _; injection h
        subst this
        exact (gsl h1)
       ·exact ih hr h
     have := this ds hm'.out hd'
     omega
    have ⟨hmW', hDne', hDK'⟩ := hyd3 hmW hDne hDK
    have hown1 := Lib.hid hown0
    have hg' := hyd1 hg
    clear hmW hDne hDK hown0 hg hnear hcell hyield hP hBs hO
    gi_wp2_with (first | (gi_at_builtin; go_must (refine wpListIn_appI rfl _ _ 36 rfl (w.heap.size + 5) 3 elemInt u11 (pickedL f b dir M K k) rfl (hown1.out.alloc _) _ [pickSt b.length (pickX f b dir M k) K (List.finRange b.length)] rfl (one_newI _ _ _) (by rw [pickedL_length]; simp; omega) (by simp; omega) ?_)))
    intro v2 w2 h1 h2 h3 _
    have h1' := hyd1 h1
    clear h1
    have hWa : Below (w.heap.size + 5) wr (W.alloc (.cells #[.int .i64 (pickSt b.length (pickX f b dir M k) K (List.finRange b.length))] 3)) := hWb.alloc (by omega) _
    have hW2 : Below (w.heap.size + 5) wr w2 := hWa.trans h2
    have keepD : ∀ D' : Nat, W.heap[D']? = some (Obj.deferred (some [])) → w2.heap[D']? = some (Obj.deferred (some [])) := fun D' hd => by
     have hl' := (gsl hd)
     rw [h3.block D' (by simp; omega) (own_ne hown1.out hd), Below.heap_alloc _ _ _ hl']
     exact hd
    have ⟨keepD', h3', h2'⟩ := hyd3 keepD h3 h2
    clear keepD h3 h2 hWa
    gi_wp2
    refine ⟨⟨k + 1, { target := .collected D, args := #[] } :: ds, _, _, _, _, _, _, _, _, _, _, _, _, _, _, _, _, _, _, _, _, _, _, _, _, _, _, _, _, _, _, _, _, _, _, _, _, _, _, _, _, _, _, _, rfl, by omega, env'.out.keep hW2, ⟨⟨D, rfl, by omega, keepD'.out D hDK'.out, hDne'.out⟩, hmW'.out.keep fun D' _ h => keepD'.out D' h⟩, ?_⟩, ?_⟩
    ·have h := h1'.out
     rw [pickedL_succ, List.length_append, List.map_append]
     exact h
    ·simp [intOf]; omega
   case stop =>
    rintro D cc pre W _ _ h _
    exact h.elim
  ·obtain rfl : k = f.length := by omega
   gi_wp2
   refine leaves_marks (w.heap.size + 5) ds wr hm'.out fun w' hb hkeep => ?_
   exact ⟨_, results_tmp rfl _ _ _, u11, rfl, env'.out.below.trans (hb.mono (by omega)), own_base (own_cells hown'.out hkeep) (by omega)⟩
end Go.Proofs.YtphdalgaemefoaaGreat
namespace Go.Proofs.YtphdalgaemefoaaGreat
set_option maxRecDepth 100000
set_option maxHeartbeats 4000000
open Go.RowKit
set_option linter.unusedVariables false
set_option linter.unusedSimpArgs false

def liftM (h d : Int) : Int := h - d
def liftK (x y : Int) : Int := if x < y then y else x
def underM (h d : Int) : Int := h + d
def underK (x y : Int) : Int := if y < x then y else x
def liftL (f b : List Int) : List Int := pickedL f b 1 liftM liftK f.length
def underL (f b : List Int) : List Int := pickedL f b (-1) underM underK f.length
theorem liftL_length (f b : List Int) : (liftL f b).length = f.length := pickedL_length _ _ _ _ _ _
theorem underL_length (f b : List Int) : (underL f b).length = f.length := pickedL_length _ _ _ _ _ _
def bothE (f b : List Int) : Int := if rosOk f then (if rubOk b f.length then 0 else 31) else 30

theorem pf_both (vf vb : Value) (f b : List Int) (w : World) (hf : Ints w vf f) (hb : Ints w vb b) :
  Calls Tryz.prog 73 #[vf, vb] w fun e w' => e = .returned (.int .i64 (bothE f b)) ∧ w = w' := by
 have hf0 := Lib.hid hf
 have hb0 := Lib.hid hb
 obtain ⟨A, c, rfl, hlc, hcm, _, hr⟩ := hf
 unfold maxLen at hcm
 clear hr hb
 unfold bothE
 obtain ⟨B, hB⟩ : ∃ B, rosOk f = B := ⟨_, rfl⟩
 obtain ⟨C, hC⟩ : ∃ C, rubOk b f.length = C := ⟨_, rfl⟩
 rw [hB, hC]
 have ⟨hB', hC'⟩ := hyd2 hB hC
 clear hB hC
 cases B with
 | false =>
  go_enter Tryz.func73, Tryz.ntmps73
  go_wp2_with (first | (go_at_call 25; refine (pf_ros_Check _ f _ hf0.out false hB'.out).mono ?_; rintro e w' ⟨rfl, rfl⟩))
  go_ret
  exact ⟨rfl, rfl⟩
 | true =>
  cases C
  all_goals
   go_enter Tryz.func73, Tryz.ntmps73
   go_wp2_with (first | (go_at_call 25; refine (pf_ros_Check _ f _ hf0.out true hB'.out).mono ?_; rintro e w' ⟨rfl, rfl⟩) | (go_at_call 26; refine (pf_ros_CheckRubber _ b _ _ hb0.out _ hC'.out).mono ?_; rintro e w' ⟨rfl, rfl⟩))
   go_ret
   exact ⟨rfl, rfl⟩
theorem pf_lifted1 (h d : Int) (W : World) (hh : 0 ≤ h ∧ h ≤ 10000) (hd : 0 ≤ d ∧ d ≤ 10000) : Calls Tryz.prog 77 #[.int .i64 h, .int .i64 d] W fun e w' => e = .returned (.int .i64 (liftM h d)) ∧ W = w' := by
 obtain ⟨h1, h2⟩ := hh
 obtain ⟨h3, h4⟩ := hd
 go_enter Tryz.func77, Tryz.ntmps77
 go_wp2
 go_ret
 exact ⟨rfl, rfl⟩
theorem pf_lifted2 (x y : Int) (W : World) : Calls Tryz.prog 78 #[.int .i64 x, .int .i64 y] W fun e w' => e = .returned (.int .i64 (liftK x y)) ∧ W = w' := by
 unfold liftK
 by_cases h : x < y
 ·rw [if_pos h]
  go_enter Tryz.func78, Tryz.ntmps78
  go_wp2
  go_ret
  exact ⟨rfl, rfl⟩
 ·rw [if_neg h]
  have h' : y ≤ x := by omega
  go_enter Tryz.func78, Tryz.ntmps78
  go_wp2
  go_ret
  exact ⟨rfl, rfl⟩
theorem pf_lifted (vf vb : Value) (f b : List Int) (w : World) (hf : Ints w vf f) (hb : Ints w vb b) (hfo : rosOk f = true) (hbo : rubOk b f.length = true) :
  Calls Tryz.prog 62 #[vf, vb] w fun e w' => ∃ v', e = .returned v' ∧ Below w.heap.size w w' ∧ w'.ownsRow w.heap.size 3 1 v' (liftL f b).length ((liftL f b).map vint) := by
 have hf0 := Lib.hid hf
 have hb0 := Lib.hid hb
 obtain ⟨A, c, rfl, hlc, hcm, _, hr⟩ := hf
 obtain ⟨A', c', rfl, hlc', hcm', _, hr'⟩ := hb
 clear hr hr'
 go_enter Tryz.func62, Tryz.ntmps62
 go_wp2_with (first | (go_at_call 74; refine (pf_picked f b _ _ _ hf0.out hb0.out 1 77 78 liftM liftK hfo hbo (.inl rfl) (fun _ _ => by kernel_rfl) (fun _ _ => by kernel_rfl) (fun h d W h1 h2 => pf_lifted1 h d W h1 h2) (fun h d h1 h2 => by unfold Near liftM; omega) (fun x y W _ _ => pf_lifted2 x y W) (fun x y h1 h2 => by unfold Near liftK at *; split <;> omega)).mono ?_; rintro e w' ⟨v', rfl, h1, h2⟩))
 go_ret
 exact ⟨v', rfl, h1, h2⟩
theorem pf_made1 (g : Nat) (G : List Int → List Int → List Int) (vf vb : Value) (f b : List Int) (w : World) (ba : Nat) (hf : Ints w vf f) (hb : Ints w vb b) (hba : ba < w.heap.size)
  (hc : w.cell? ⟨ba, 0, none⟩ = some (.func (.func g) #[] #[])) (hg : Plain Tryz.prog g) (hgl : (G f b).length = f.length)
  (hG : ∀ (vf' vb' : Value) (W : World), Ints W vf' f → Ints W vb' b → rosOk f = true → rubOk b f.length = true → Calls Tryz.prog g #[vf', vb'] W fun e w' => ∃ v', e = .returned v' ∧ Below W.heap.size W w' ∧ w'.ownsRow W.heap.size 3 1 v' (G f b).length ((G f b).map vint))
  (E : Int) (hE : bothE f b = E) :
  Calls Tryz.prog 60 #[vf, vb, .slice (some ⟨ba, 0, none⟩) 1 1] w fun e w' => ∃ v', e = .returned (.tuple #[v', .int .i64 E]) ∧ Below w.heap.size w w' ∧
   (E = 0 → w'.ownsRow w.heap.size 3 1 v' (G f b).length ((G f b).map vint)) ∧ (E ≠ 0 → v' = .slice none 0 0) := by
 have hf0 := Lib.hid hf
 have hb0 := Lib.hid hb
 obtain ⟨A, c, rfl, hlc, hcm, _, hr⟩ := hf
 obtain ⟨A', c', rfl, hlc', hcm', _, hr'⟩ := hb
 have hg' := hg
 unfold Plain at hg'
 have hE' := hyd1 hE
 clear hr hr' hE
 by_cases h0 : E = 0
 ·have hok : rosOk f = true ∧ rubOk b f.length = true := by
   have := hE'.out
   unfold bothE at this
   cases h1 : rosOk f <;> cases h2 : rubOk b f.length <;> simp_all
  subst h0
  go_enter Tryz.func60, Tryz.ntmps60
  go_wp2_with (first | (go_at_call 73; refine (pf_both _ _ f b _ hf0.out hb0.out).mono ?_; rintro e w' ⟨rfl, rfl⟩; rw [hE'.out]))
  go_loopw [19, 0] (fun i s wr => ∃ k : Nat, k ≤ 1 ∧ i = .int .i64 k ∧ Below w.heap.size w wr ∧ Hid ((k = 0 → s = .slice A f.length c ∧ wr = w) ∧ (k = 1 → wr.ownsRow w.heap.size 3 1 s (G f b).length ((G f b).map vint)))) (fun i _ _ => 1 - (intOf i).toNat)
  case atStart => exact ⟨0, by omega, rfl, Below.refl _ _, ⟨fun _ => ⟨rfl, rfl⟩, fun h => absurd h (by omega)⟩⟩
  case round =>
   obtain ⟨k, hk, rfl, hbw, hst⟩ := hrel
   obtain rfl | rfl : k = 0 ∨ k = 1 := by omega
   ·obtain ⟨rfl, rfl⟩ := hst.out.1 rfl
    clear hst
    go_wp2_with (first | (refine (hG _ _ _ hf0.out hb0.out hok.1 hok.2).mono ?_; rintro e w' ⟨v', rfl, h1, h2⟩; have h2' := Lib.hid h2; clear h2))
    go_roundw
    case rel => exact ⟨1, by omega, by go_num, h1, ⟨fun h => absurd h (by omega), fun _ => h2'.out⟩⟩
    case measure => simp [intOf]
   ·have hst' := Lib.hid (hst.out.2 rfl)
    clear hst
    go_wp2
    go_ret2
    exact ⟨_, rfl, hbw, fun _ => hst'.out, fun h => absurd rfl h⟩
 ·have hne : (E != 0) = true := by simpa using h0
  have h0' := hyd1 h0
  clear h0
  go_enter Tryz.func60, Tryz.ntmps60
  go_wp2_with (first | (go_at_call 73; refine (pf_both _ _ f b _ hf0.out hb0.out).mono ?_; rintro e w' ⟨rfl, rfl⟩; rw [hE'.out]))
  go_ret2
  exact ⟨_, rfl, Below.refl _ _, fun h => absurd h h0'.out, fun _ => rfl⟩
theorem pf_ros_Lift (vf vb : Value) (f b : List Int) (w : World) (hf : Ints w vf f) (hb : Ints w vb b) (E : Int) (hE : bothE f b = E) :
  Calls Tryz.prog 68 #[vf, vb] w fun e w' => ∃ v', e = .returned (.tuple #[v', .int .i64 E]) ∧ Below w.heap.size w w' ∧
   (E = 0 → w'.ownsRow w.heap.size 3 1 v' (liftL f b).length ((liftL f b).map vint)) ∧ (E ≠ 0 → v' = .slice none 0 0) := by
 have hf0 := Lib.hid hf
 have hb0 := Lib.hid hb
 obtain ⟨A, c, rfl, hlc, hcm, _, hr⟩ := hf
 obtain ⟨A', c', rfl, hlc', hcm', _, hr'⟩ := hb
 clear hr hr'
 have hE' := hyd1 hE
 clear hE
 go_enter Tryz.func68, Tryz.ntmps68
 go_wp2_with (first | (go_at_call 60; refine (pf_made1 62 liftL _ _ f b _ w.heap.size (hf0.out.below (alc1 _ _)) (hb0.out.below (alc1 _ _)) (by simp) (World.cell?_alloc_at _ _ _ _ rfl) (fun _ _ => by kernel_rfl) (liftL_length f b) (fun vf' vb' W h1 h2 h3 h4 => pf_lifted vf' vb' f b W h1 h2 h3 h4) E hE'.out).mono ?_; rintro e w' ⟨v', rfl, h1, h2, h3⟩))
 go_ret2
 exact ⟨v', rfl, (alc1 _ _).trans (h1.mono (by simp)), fun h => own_base (h2 h) (by simp), h3⟩
end Go.Proofs.YtphdalgaemefoaaGreat
namespace Go.Proofs.YtphdalgaemefoaaGreat
set_option maxRecDepth 100000
set_option maxHeartbeats 4000000
open Go.RowKit
set_option linter.unusedVariables false
set_option linter.unusedSimpArgs false

def turnL (f : List Int) (s : Nat) : List Int := f.drop (f.length - s) ++ f.take (f.length - s)
theorem turnL_length (f : List Int) (s : Nat) : (turnL f s).length = f.length := by simp [turnL]
theorem one_two (w : World) (x y : Value) (e : TypeId) : Arr id (w.alloc (.cells #[x, y] e)).drew (.slice (some ⟨w.heap.size, 0, none⟩) 2 2) [x, y] :=
 ⟨some ⟨w.heap.size, 0, none⟩, 2, rfl, by simp, by simp [maxLen], fun h => by simp at h, fun _ => ⟨w.heap.size, 0, rfl, by simp [World.drew], fun j hj => by
  have h : (w.alloc (.cells #[x, y] e)).cell? ⟨w.heap.size, 0 + j, none⟩ = some (id [x, y][j]) := by
   rw [World.cell?_alloc_at _ _ _ _ rfl, Nat.zero_add]
   simp at hj
   rw [Array.getElem?_eq_getElem (by simpa using hj)]
   simp
  exact h⟩⟩
theorem pf_turned (v : Value) (f : List Int) (s : Nat) (w : World) (hv : Ints w v f) (hs : s ≤ f.length) (hl : f.length ≤ 1000) (hl0 : 0 < f.length) :
  Calls Tryz.prog 33 #[v, .int .i64 s] w fun e w' => ∃ v', e = .returned v' ∧ Below w.heap.size w w' ∧ w'.ownsRow w.heap.size 3 1 v' (turnL f s).length ((turnL f s).map vint) := by
 have hv0 := Lib.hid hv
 obtain ⟨A, c, rfl, hlc, hcm, _, hr⟩ := hv
 unfold maxLen at hcm
 clear hr
 obtain ⟨k, hk⟩ : ∃ k : Nat, (f.length : Int) - (s : Int) = (k : Int) := ⟨f.length - s, by omega⟩
 have hkl : k ≤ f.length := by omega
 have r1 := fun W => run_cut_l (elemInt : Elem1 Tryz.prog 36 3 (.int .i64 0) 8) A f.length c k hkl W
 have r2 := fun W => run_cut_h (elemInt : Elem1 Tryz.prog 36 3 (.int .i64 0) 8) A f.length c k (by omega) W
 have hks : f.length - s = k := by omega
 have hwr : IntKind.i64.wrap ((f.length : Int) - (s : Int)) = (k : Int) := by rw [hk]; exact IntWalk.i64_in _ (by omega)
 have hA1 := hv0.out.cut k f.length hkl (Nat.le_refl _)
 have hA2 := hv0.out.cut 0 k (Nat.zero_le _) hkl
 have e0 : cutA A c 0 = A := by
  unfold cutA
  split
  ·rfl
  ·cases A <;> simp [Addr.add]
 rw [e0, Nat.sub_zero, Nat.sub_zero, List.drop_zero] at hA2
 have e1 : (f.drop k).take (f.length - k) = f.drop k := List.take_of_length_le (by simp)
 rw [e1] at hA1
 generalize hX : cutA A c k = X at r1 hA1
 have ⟨hA1', hA2', hks'⟩ := hyd3 hA1 hA2 hks
 have hsp : (turnL f s) = [f.drop k, f.take k].flatten := by simp [turnL, hks]
 have hsp' := hyd1 hsp
 have hfl : [f.drop k, f.take k].flatten.length ≤ 1000000 := by
  rw [← hsp, turnL_length]; omega
 rw [hsp]
 have hfl' := hyd1 hfl
 have hcc : ∀ (v2 : Value) (W : World), Arr id W v2 [.slice X (f.length - k) (c - k), .slice A k c] → Below w.heap.size w W → Calls Tryz.prog 58 #[v2] W fun e w' => ∃ v', e = .returned v' ∧ Below W.heap.size W w' ∧ w'.ownsRow W.heap.size 3 1 v' [f.drop k, f.take k].flatten.length ([f.drop k, f.take k].flatten.map vint) := by
  intro v2 W h1 hb
  refine pf_Concat v2 _ [f.drop k, f.take k] W h1 rfl (fun j h h' => ?_) hfl (by simp)
  match j, h, h' with
  | 0, _, _ => exact hA1.below hb
  | 1, _, _ => exact hA2.below hb
 have hcc' := hyd1 hcc
 clear hks hA1 hA2 e0 e1 hX hsp hfl hcc
 have hwk : IntKind.i64.wrap (k : Int) = (k : Int) := IntWalk.i64_in _ (by omega)
 have i1 : (0 : Int) ≤ (k : Int) := by omega
 have i2 : (k : Int) ≤ (f.length : Int) := by omega
 have i3 : (k : Int) ≤ (c : Int) := by omega
 go_enter Tryz.func33, Tryz.ntmps33
 go_wp2
 go_region_held3 (fun _ => True) (go_keep) (first | (go_at_call 58; refine (hcc'.out _ _ (one_two _ _ _ _) (by first | exact (alc1 _ _).drew)).mono ?_; rintro e w' ⟨v', rfl, h1, h2⟩))
 go_wp2
 go_ret
 exact ⟨v', rfl, (alc1 _ _).drew.trans (h1.mono (by simp)), own_base h2 (by simp)⟩
def matchesN (f g : List Int) (k : Nat) : List Nat := (List.range k).filter fun s => turnL f s == g
def matchesI (f g : List Int) (k : Nat) : List Int := (matchesN f g k).map fun (s : Nat) => (s : Int)
theorem matchesI_hit (f g : List Int) (k : Nat) (h : (turnL f k == g) = true) : matchesI f g (k + 1) = matchesI f g k ++ [(k : Int)] := by
 simp [matchesI, matchesN, List.range_succ, List.filter_append, h]
theorem matchesI_miss (f g : List Int) (k : Nat) (h : (turnL f k == g) = false) : matchesI f g (k + 1) = matchesI f g k := by
 simp [matchesI, matchesN, List.range_succ, List.filter_append, h]
theorem matchesI_le (f g : List Int) (k : Nat) : (matchesI f g k).length ≤ k := by
 have := List.length_filter_le (fun s => turnL f s == g) (List.range k)
 simpa [matchesI, matchesN] using this
theorem pf_matches (v v' : Value) (f g : List Int) (w : World) (hv : Ints w v f) (hv' : Ints w v' g) (hl : f.length ≤ 1000) :
  Calls Tryz.prog 31 #[v, v'] w fun e w' => ∃ r, e = .returned r ∧ Below w.heap.size w w' ∧ w'.ownsRow w.heap.size 3 1 r (matchesI f g f.length).length ((matchesI f g f.length).map vint) := by
 have hv0 := Lib.hid hv
 have hv1 := Lib.hid hv'
 obtain ⟨A, c, rfl, hlc, hcm, _, hr⟩ := hv
 clear hv' hr
 go_enter Tryz.func31, Tryz.ntmps31
 go_wp2
 go_loopw [9, 5] (fun i s wr => ∃ k : Nat, k ≤ f.length ∧ i = .int .i64 k ∧ Below w.heap.size w wr ∧ Hid (wr.ownsRow w.heap.size 3 1 s (matchesI f g k).length ((matchesI f g k).map vint))) (fun i _ _ => f.length - (intOf i).toNat)
 case atStart => exact ⟨0, by omega, rfl, Below.refl _ _, World.ownsRow_nil _ _ _ _⟩
 case round =>
  obtain ⟨k, hk, rfl, hbw, hown⟩ := hrel
  by_cases hlt : k < f.length
  ·have hvr := Lib.hid (hv0.out.below hbw)
   obtain ⟨B, hB⟩ : ∃ B, (turnL f k == g) = B := ⟨_, rfl⟩
   have hB' := hyd1 hB
   have hle := matchesI_le f g k
   have hbz := hbw.size
   clear hB
   go_wp2_with fail
   refine (pf_turned _ f k _ hvr.out (by omega) hl (by omega)).mono ?_
   rintro e w1 ⟨v1, rfl, hb1, ho1⟩
   have hI1 := Lib.hid (Arr.of_own ho1)
   have hB1 : Below w.heap.size w w1 := hbw.trans (hb1.mono hbz)
   have hown1 := Lib.hid (own_below hown.out hb1)
   clear ho1
   go_wp2_with fail
   refine (pf_Equal v1 v' (turnL f k) g w1 hI1.out (hv1.out.below hB1)).mono ?_
   rintro e w2 ⟨rfl, nd, rfl⟩
   rw [hB'.out]
   have hB2 := below_drewN' hB1 nd
   have hown2 : Hid ((w1.drewN nd).ownsRow _ _ _ _ _ _) := hown1
   have hB2z := hB2.size
   generalize w1.drewN nd = w2 at hB2 hown2 hB2z ⊢
   clear hown hown1 hI1 hB1 hb1 hvr
   cases B with
   | true =>
    have hs := Lib.hid (matchesI_hit f g k hB'.out)
    go_wp2_with (first | (at_builtin; go_must (refine wpList_appI rfl _ _ 36 rfl w.heap.size 3 elemInt _ (matchesI f g k) rfl (hown2.out.alloc _) _ [(k : Int)] rfl (one_newI _ _ _) (by simp; omega) (by simp; omega) ?_)))
    intro v3 w3 h1 h2 _ _
    have h1' := hyd1 h1
    clear h1
    have hB3 : Below w.heap.size w w3 := (hB2.alloc hB2z _).trans h2
    clear h2
    go_wp2
    go_roundw
    case rel => exact ⟨k + 1, by omega, by go_num, hB3, by have h := h1'.out; rw [hs.out, List.length_append, List.map_append]; exact h⟩
    case measure => simp [intOf]; omega
   | false =>
    have hs := Lib.hid (matchesI_miss f g k hB'.out)
    go_wp2
    go_roundw
    case rel => exact ⟨k + 1, by omega, by go_num, hB2, by rw [hs.out]; exact hown2⟩
    case measure => simp [intOf]; omega
  ·obtain rfl : k = f.length := by omega
   go_wp2
   go_ret
   exact ⟨_, rfl, hbw, hown.out⟩
theorem turnL_zero (f : List Int) : turnL f 0 = f := by simp [turnL]
theorem matches_pos (f : List Int) (h : 0 < f.length) : 0 < (matchesI f f f.length).length := by
 have : 0 ∈ matchesN f f f.length := by simp [matchesN, turnL_zero, h]
 have h2 := List.length_pos_of_mem this
 simpa [matchesI] using h2
def periodL (f : List Int) : Nat := f.length / (matchesI f f f.length).length
theorem pf_ros_Period (v : Value) (f : List Int) (w : World) (hv : Ints w v f) (hok : rosOk f = true) :
  Calls Tryz.prog 71 #[v] w fun e w' => e = .returned (.tuple #[.int .i64 (periodL f), .int .i64 0]) ∧ Below w.heap.size w w' := by
 have hv0 := Lib.hid hv
 obtain ⟨A, c, rfl, hlc, hcm, _, hr⟩ := hv
 clear hr
 have hl : 3 ≤ f.length ∧ f.length ≤ 96 := by
  unfold rosOk at hok
  simp only [Bool.and_eq_true, decide_eq_true_eq] at hok
  exact ⟨hok.1, hok.2.1⟩
 have hm := matches_pos f (by omega)
 have hm2 := matchesI_le f f f.length
 have hper : ((f.length : Int) / ((matchesI f f f.length).length : Int)) = ((periodL f : Nat) : Int) := by unfold periodL; simp
 have hper2 : periodL f ≤ f.length := Nat.div_le_self f.length (matchesI f f f.length).length
 unfold maxLen at hcm
 go_enter Tryz.func71, Tryz.ntmps71
 go_wp2_with (first | (go_at_call 25; refine (pf_ros_Check _ f _ hv0.out true hok).mono ?_; rintro e w' ⟨rfl, rfl⟩) | (go_at_call 31; refine (pf_matches _ _ f f _ hv0.out hv0.out (by omega)).mono ?_; rintro e w1 ⟨r, rfl, hb1, ho1⟩; obtain ⟨rA, rc, rfl, _, hrm, _, _⟩ := Arr.of_own ho1; clear ho1; unfold maxLen at hrm))
 go_ret2
 exact ⟨rfl, hb1⟩
end Go.Proofs.YtphdalgaemefoaaGreat
namespace Go.Proofs.YtphdalgaemefoaaGreat
set_option maxRecDepth 100000
set_option maxHeartbeats 4000000
set_option linter.unusedVariables false
def pickN (N : Nat) (X : Nat → Int) (K : Int → Int → Int) (k : Nat) : Int := (List.range k).foldl (pickStep N X K) 0
theorem pickN_succ (N : Nat) (X : Nat → Int) (K : Int → Int → Int) (k : Nat) : pickN N X K (k + 1) = pickStep N X K (pickN N X K k) k := by
 unfold pickN; rw [List.range_succ, List.foldl_append]; rfl
theorem finRange_val (N : Nat) : (List.finRange N).map (·.1) = List.range N := by
 apply List.ext_getElem
 ·simp
 ·intro i h1 h2; simp
theorem pickedP_eq (f b : List Int) (dir : Int) (M K : Int → Int → Int) (p : Nat) : pickedP f b dir M K p = pickN b.length (pickX f b dir M p) K b.length := by
 unfold pickedP pickSt pickN
 rw [finRange_val]
theorem pickN_one (N : Nat) (X : Nat → Int) (K : Int → Int → Int) : pickN N X K 1 = X 0 := by
 rw [pickN_succ]; simp [pickStep]
theorem pickN_step (N : Nat) (X : Nat → Int) (K : Int → Int → Int) (k : Nat) (h : 0 < k) : pickN N X K (k + 1) = K (pickN N X K k) (X k) := by
 rw [pickN_succ]; unfold pickStep
 rw [if_neg (by omega)]
theorem liftK_max (x y : Int) : liftK x y = max x y := by unfold liftK; split <;> omega
theorem underK_min (x y : Int) : underK x y = min x y := by unfold underK; split <;> omega
theorem pickN_ge (N : Nat) (X : Nat → Int) : ∀ k j, j < k → X j ≤ pickN N X liftK k := by
 intro k
 induction k with
 | zero => intro j h; omega
 | succ k ih =>
  intro j h
  rcases Nat.eq_zero_or_pos k with h0 | h0
  ·subst h0
   obtain rfl : j = 0 := by omega
   rw [pickN_one]; omega
  ·rw [pickN_step _ _ _ _ h0, liftK_max]
   by_cases hj : j = k
   ·subst hj; omega
   ·have := ih j (by omega); omega
theorem pickN_mem (N : Nat) (X : Nat → Int) : ∀ k, 0 < k → ∃ j, j < k ∧ pickN N X liftK k = X j := by
 intro k
 induction k with
 | zero => intro h; omega
 | succ k ih =>
  intro _
  rcases Nat.eq_zero_or_pos k with h0 | h0
  ·subst h0; exact ⟨0, by omega, pickN_one _ _ _⟩
  ·rw [pickN_step _ _ _ _ h0, liftK_max]
   obtain ⟨j, hj, he⟩ := ih h0
   by_cases h : pickN N X liftK k ≤ X k
   ·exact ⟨k, by omega, by omega⟩
   ·exact ⟨j, by omega, by omega⟩
theorem liftL_getElem (f b : List Int) (p : Nat) (h : p < f.length) : (liftL f b)[p]'(by rw [liftL_length]; exact h) = pickN b.length (pickX f b 1 liftM p) liftK b.length := by
 simp [liftL, pickedL, pickedP_eq]
theorem rosOk_iff {f : List Int} : rosOk f = true ↔ 3 ≤ f.length ∧ f.length ≤ 96 ∧ ∀ i (h : i < f.length), 0 ≤ f[i] ∧ f[i] ≤ 10000 := by
 unfold rosOk
 simp only [Bool.and_eq_true, decide_eq_true_eq, List.all_eq_true]
 constructor
 ·rintro ⟨h1, h2, h3⟩; exact ⟨h1, h2, fun i h => within_iff.1 (h3 _ (List.getElem_mem h))⟩
 ·rintro ⟨h1, h2, h3⟩
  refine ⟨h1, h2, fun x hx => ?_⟩
  obtain ⟨i, hi, rfl⟩ := List.mem_iff_getElem.1 hx
  exact within_iff.2 (h3 i hi)
theorem rubOk_iff {b : List Int} {n : Int} : rubOk b n = true ↔ b.length % 2 = 1 ∧ (b.length : Int) ≤ n ∧ b.length ≤ 31 ∧ (∀ i (h : i < b.length), 0 ≤ b[i] ∧ b[i] ≤ 10000) ∧ b.getD (b.length / 2) 0 ≤ 0 := by
 unfold rubOk
 simp only [Bool.and_eq_true, decide_eq_true_eq, List.all_eq_true]
 constructor
 ·rintro ⟨h1, h2, h3, h4, h5⟩; exact ⟨h1, h2, h3, fun i h => within_iff.1 (h4 _ (List.getElem_mem h)), h5⟩
 ·rintro ⟨h1, h2, h3, h4, h5⟩
  refine ⟨h1, h2, h3, fun x hx => ?_, h5⟩
  obtain ⟨i, hi, rfl⟩ := List.mem_iff_getElem.1 hx
  exact within_iff.2 (h4 i hi)
theorem rub_mid {b : List Int} {n : Int} (h : rubOk b n = true) : b.getD (b.length / 2) 0 = 0 := by
 obtain ⟨h1, h2, h3, h4, h5⟩ := rubOk_iff.1 h
 have hk : b.length / 2 < b.length := by omega
 have := h4 _ hk
 simp [hk] at h5 ⊢
 omega
def atR (f : List Int) (i : Int) : Int := f.getD (i % (f.length : Int)).toNat 0
theorem atR_height {f : List Int} (h : rosOk f = true) (i : Int) : 0 ≤ atR f i ∧ atR f i ≤ 10000 := by
 obtain ⟨h1, h2, h3⟩ := rosOk_iff.1 h
 have hq0 := Int.emod_nonneg i (show (f.length : Int) ≠ 0 by omega)
 have hq1 := Int.emod_lt_of_pos i (show (0 : Int) < (f.length : Int) by omega)
 have hk : (i % (f.length : Int)).toNat < f.length := by omega
 unfold atR
 simp [hk]
 exact h3 _ hk
theorem atR_nat {f : List Int} (p : Nat) (h : p < f.length) : atR f (p : Int) = f[p] := by
 unfold atR
 rw [Int.emod_eq_of_lt (by omega) (by omega)]
 simp [h]
theorem pickX_lift (f b : List Int) (p j : Nat) : pickX f b 1 liftM p j = atR f ((p : Int) + ((j : Int) - (b.length : Int) / 2)) - b.getD j 0 := by
 unfold pickX liftM atR
 rw [Int.one_mul]
theorem lift_ok {f b : List Int} (hf : rosOk f = true) (hb : rubOk b f.length = true) : rosOk (liftL f b) = true := by
 obtain ⟨h1, h2, h3⟩ := rosOk_iff.1 hf
 obtain ⟨k1, k2, k3, k4, k5⟩ := rubOk_iff.1 hb
 have hm := rub_mid hb
 refine rosOk_iff.2 ⟨by rw [liftL_length]; exact h1, by rw [liftL_length]; exact h2, fun p hp0 => ?_⟩
 have hp : p < f.length := by rw [liftL_length] at hp0; exact hp0
 rw [liftL_getElem f b p hp]
 constructor
 ·have := pickN_ge b.length (pickX f b 1 liftM p) b.length (b.length / 2) (by omega)
  rw [pickX_lift, hm] at this
  have e : (p : Int) + ((b.length / 2 : Nat) : Int) - (b.length : Int) / 2 = (p : Int) := by omega
  rw [show (p : Int) + (((b.length / 2 : Nat) : Int) - (b.length : Int) / 2) = (p : Int) from by omega, atR_nat p hp] at this
  have := h3 p hp
  omega
 ·obtain ⟨j, hj, he⟩ := pickN_mem b.length (pickX f b 1 liftM p) b.length (by omega)
  rw [he, pickX_lift]
  have h4 := atR_height hf ((p : Int) + ((j : Int) - (b.length : Int) / 2))
  have h5 := k4 j hj
  simp [hj]
  omega
end Go.Proofs.YtphdalgaemefoaaGreat
namespace Go.Proofs.YtphdalgaemefoaaGreat
set_option maxRecDepth 100000
set_option maxHeartbeats 4000000
set_option linter.unusedVariables false
def movedL (f : List Int) (s : Int) : List Int := (List.range f.length).map fun (p : Nat) => atR f ((p : Int) - s)
theorem movedL_length (f : List Int) (s : Int) : (movedL f s).length = f.length := by simp [movedL]
theorem movedL_get (f : List Int) (s : Int) (p : Nat) (h : p < f.length) : (movedL f s)[p]'(by rw [movedL_length]; exact h) = atR f ((p : Int) - s) := by simp [movedL]
theorem atR_mod (f : List Int) (i j : Int) (h : i % (f.length : Int) = j % (f.length : Int)) : atR f i = atR f j := by unfold atR; rw [h]
theorem atR_add_len (f : List Int) (i q : Int) : atR f (i + f.length * q) = atR f i := atR_mod _ _ _ (Int.add_mul_emod_self_left ..)
def Shifts (f : List Int) (s : Int) : Prop := ∀ i : Int, atR f (i - s) = atR f i
theorem moved_iff (f : List Int) (s : Int) : movedL f s = f ↔ Shifts f s := by
 constructor
 ·intro h i
  by_cases h0 : f.length = 0
  ·have : f = [] := List.length_eq_zero_iff.1 h0
   subst this; simp [atR]
  have hq0 := Int.emod_nonneg i (show (f.length : Int) ≠ 0 by omega)
  have hq1 := Int.emod_lt_of_pos i (show (0 : Int) < (f.length : Int) by omega)
  obtain ⟨r, hr⟩ : ∃ r : Nat, i % (f.length : Int) = (r : Int) := ⟨_, (Int.toNat_of_nonneg hq0).symm⟩
  have hrl : r < f.length := by omega
  have e1 := movedL_get f s r hrl
  have e2 : (movedL f s)[r]'(by rw [movedL_length]; exact hrl) = f[r] := by simp [h]
  rw [e2, ← atR_nat r hrl] at e1
  have hi : i = (r : Int) + f.length * (i / f.length) := by have := Int.emod_add_mul_ediv i f.length; omega
  rw [hi, show (r : Int) + f.length * (i / f.length) - s = ((r : Int) - s) + f.length * (i / f.length) from by omega, atR_add_len, atR_add_len]
  exact e1.symm
 ·intro h
  apply List.ext_getElem (movedL_length f s)
  intro p h1 h2
  rw [movedL_get f s p h2, h p, atR_nat p h2]
theorem Shifts.zero (f : List Int) : Shifts f 0 := fun i => by rw [Int.sub_zero]
theorem Shifts.add {f : List Int} {s t : Int} (h : Shifts f s) (k : Shifts f t) : Shifts f (s + t) := fun i => by
 rw [show i - (s + t) = (i - s) - t from by omega, k, h]
theorem Shifts.neg {f : List Int} {s : Int} (h : Shifts f s) : Shifts f (-s) := fun i => by
 have := h (i + s)
 rw [show i - -s = i + s from by omega, ← this, show i + s - s = i from by omega]
theorem Shifts.len (f : List Int) : Shifts f f.length := fun i => by
 have := atR_add_len f i (-1)
 rw [← this]; congr 1; omega
theorem Shifts.mul {f : List Int} {s : Int} (h : Shifts f s) (k : Nat) : Shifts f (s * k) := by
 induction k with
 | zero => simpa using Shifts.zero f
 | succ k ih => have := ih.add h; rwa [show s * (k : Int) + s = s * ((k + 1 : Nat) : Int) from by rw [Int.natCast_add, Int.mul_add]; simp] at this
theorem Shifts.mulI {f : List Int} {s : Int} (h : Shifts f s) (k : Int) : Shifts f (s * k) := by
 rcases Int.eq_nat_or_neg k with ⟨n, rfl | rfl⟩
 ·exact h.mul n
 ·have := (h.mul n).neg; rwa [show -(s * (n : Int)) = s * -(n : Int) from by rw [Int.mul_neg]] at this
structure IsLeast (f : List Int) (s : Nat) : Prop where
 pos : 1 ≤ s
 sh : Shifts f s
 least : ∀ j : Nat, 1 ≤ j → j < s → ¬ Shifts f j
theorem IsLeast.dvd {f : List Int} {s : Nat} (h : IsLeast f s) (t : Int) : Shifts f t ↔ (s : Int) ∣ t := by
 constructor
 ·intro ht
  have hm := Int.emod_add_mul_ediv t s
  have h0 := Int.emod_nonneg t (show (s : Int) ≠ 0 by have := h.pos; omega)
  have h1 := Int.emod_lt_of_pos t (show (0 : Int) < s by have := h.pos; omega)
  have hs : Shifts f (t % s) := by
   have := ht.add (h.sh.mulI (t / s)).neg
   rwa [show t + -((s : Int) * (t / s)) = t % s from by omega] at this
  by_cases hz : t % s = 0
  ·exact Int.dvd_of_emod_eq_zero hz
  ·exfalso
   obtain ⟨r, hr⟩ : ∃ r : Nat, t % (s : Int) = (r : Int) := ⟨_, (Int.toNat_of_nonneg h0).symm⟩
   rw [hr] at hs
   exact h.least r (by omega) (by omega) hs
 ·rintro ⟨k, rfl⟩
  exact h.sh.mulI k
theorem turn_moved (f : List Int) (s : Nat) (h : s ≤ f.length) : turnL f s = movedL f s := by
 apply List.ext_getElem
 ·rw [movedL_length, turnL_length]
 ·intro p h1 h2
  rw [movedL_length] at h2
  rw [movedL_get f s p h2]
  revert h1
  unfold turnL
  intro h1
  by_cases hp : p < s
  ·rw [List.getElem_append_left (by simp; omega)]
   rw [List.getElem_drop]
   have : atR f ((p : Int) - s) = atR f ((f.length - s + p : Nat) : Int) := atR_mod _ _ _ (by
    rw [show ((f.length - s + p : Nat) : Int) = ((p : Int) - s) + f.length * 1 from by omega, Int.add_mul_emod_self_left])
   rw [this, atR_nat _ (by omega)]
  ·rw [List.getElem_append_right (by simp; omega)]
   rw [List.getElem_take]
   have e : (p : Int) - s = ((p - s : Nat) : Int) := by omega
   rw [e, atR_nat _ (by omega)]
   congr 1
   simp
   omega
theorem count_mul (s : Nat) (hs : 1 ≤ s) : ∀ m, ((List.range (s * m)).filter fun j => decide (s ∣ j)).length = m := by
 intro m
 induction m with
 | zero => simp
 | succ m ih =>
  rw [Nat.mul_succ, List.range_add, List.filter_append, List.length_append, ih]
  congr 1
  rw [List.filter_map, List.length_map]
  have : (List.range s).filter ((fun j => decide (s ∣ j)) ∘ fun x => s * m + x) = [0] := by
   obtain ⟨k, rfl⟩ : ∃ k, s = k + 1 := ⟨s - 1, by omega⟩
   rw [List.range_succ_eq_map, List.filter_cons]
   have h0 : ((fun j => decide (k + 1 ∣ j)) ∘ fun x => (k + 1) * m + x) 0 = true := by simp only [Function.comp, decide_eq_true_eq, Nat.add_zero]; exact Nat.dvd_mul_right _ _
   rw [if_pos h0]
   congr 1
   rw [List.filter_eq_nil_iff]
   intro x hx
   simp only [List.mem_map, List.mem_range] at hx
   obtain ⟨y, hy, rfl⟩ := hx
   simp only [Function.comp, decide_eq_true_eq]
   intro hd
   have := (Nat.dvd_add_right (Nat.dvd_mul_right (k + 1) m)).1 hd
   exact absurd (Nat.le_of_dvd (by omega) this) (by omega)
  rw [this]; rfl
theorem IsLeast.period {f : List Int} {s : Nat} (h : IsLeast f s) (hn : 0 < f.length) : periodL f = s := by
 obtain ⟨m, hm⟩ : s ∣ f.length := by
  have := (h.dvd f.length).1 (Shifts.len f)
  exact Int.natCast_dvd_natCast.1 this
 have hp := h.pos
 have hm0 : 0 < m := by
  rcases Nat.eq_zero_or_pos m with h0 | h0
  ·rw [h0] at hm; omega
  ·exact h0
 have hc : (matchesI f f f.length).length = m := by
  have e : matchesN f f f.length = (List.range (s * m)).filter fun j => decide (s ∣ j) := by
   unfold matchesN
   rw [← hm]
   apply List.filter_congr
   intro j hj
   have hj' : j < f.length := List.mem_range.1 hj
   rw [turn_moved f j (by omega), Bool.eq_iff_iff, beq_iff_eq, moved_iff, h.dvd, decide_eq_true_eq, Int.natCast_dvd_natCast]
  have := count_mul s hp m
  rw [← e] at this
  simpa [matchesI] using this
 unfold periodL
 rw [hc, hm, Nat.mul_div_cancel _ hm0]
end Go.Proofs.YtphdalgaemefoaaGreat
