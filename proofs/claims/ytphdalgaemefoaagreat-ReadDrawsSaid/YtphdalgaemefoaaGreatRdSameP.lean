/- The reference's SameReadings; the law's same. The law's same (two lists). The reference's SamePicture. The reference's SameFound. -/
import Derived.Test.YtphdalgaemefoaaGreatRdFitsW
namespace Go.Proofs.YtphdalgaemefoaaGreat
set_option maxRecDepth 100000
set_option maxHeartbeats 1000000
open Go.RowKit
set_option linter.unusedVariables false
set_option linter.unusedSimpArgs false
end Go.Proofs.YtphdalgaemefoaaGreat
namespace Go.Proofs.YtphdalgaemefoaaGreat
set_option maxRecDepth 100000
set_option maxHeartbeats 1000000
open Go.RowKit
set_option linter.unusedVariables false
set_option linter.unusedSimpArgs false
theorem pf_l9_same (v v' : Value) (xs ys : List Int) (w : World) (hx : Ints w v xs) (hy : Ints w v' ys) :
  Calls Tryz.prog 11 #[v, v'] w fun e w' => e = .returned (.bool (xs == ys)) ∧ ∃ n, w' = w.drewN n := by
 have ⟨hx', hy'⟩ := hyd2 hx hy
 clear hy hx
 go_enter Tryz.func11, Tryz.ntmps11
 go_wp2_with (first | (go_at_call 32; ((with_reducible refine (pf_SameInts _ _ xs ys _ hx'.out hy'.out).mono ?_); rintro e w' ⟨rfl, n, rfl⟩)))
 go_ret
 exact ⟨rfl, n, rfl⟩
end Go.Proofs.YtphdalgaemefoaaGreat
namespace Go.Proofs.YtphdalgaemefoaaGreat
set_option maxRecDepth 100000
set_option maxHeartbeats 1000000
open Go.RowKit
set_option linter.unusedVariables false
set_option linter.unusedSimpArgs false
theorem pic_eq {p q : Pic} (h1 : p.hs = q.hs) (h2 : p.tl = q.tl) (h3 : p.th = q.th) (h4 : p.al = q.al) (h5 : p.ah = q.ah) (h6 : p.rds = q.rds) : p = q := by
 cases p; cases q; simp_all
theorem ints_drew {w : World} {v : Value} {L : List Int} (h : Ints w v L) (n : Nat) : Ints (w.drewN n) v L := h.below (below_drewN' (Below.refl _ _) n)
end Go.Proofs.YtphdalgaemefoaaGreat
namespace Go.Proofs.YtphdalgaemefoaaGreat
set_option maxRecDepth 100000
set_option maxHeartbeats 1000000
open Go.RowKit
set_option linter.unusedVariables false
set_option linter.unusedSimpArgs false
def fdEq (a b c d f a' b' c' d' f' : Int) : Bool := decide ((⟨a, b, c, d, f⟩ : Fnd) = ⟨a', b', c', d', f'⟩)
theorem fdEq_eq (a b c d f a' b' c' d' f' : Int) : fdEq a b c d f a' b' c' d' f' = (a == a' && (b == b' && (c == c' && (d == d' && f == f')))) := by
 unfold fdEq
 rw [Bool.eq_iff_iff]
 simp
theorem run_eqIn_fd (a b c d f a' b' c' d' f' : Int) (w : World) : (Op.equalIn 10000 35 (.agg #[.int .i64 a, .int .i64 b, .int .i64 c, .int .i64 d, .int .i64 f]) (.agg #[.int .i64 a', .int .i64 b', .int .i64 c', .int .i64 d', .int .i64 f'])).run Tryz.prog w = .ok (fdEq a b c d f a' b' c' d' f') w := by
 rw [run_equalIn_struct w 9999 35 _ _ (by kernel_rfl) (by kernel_rfl), fdEq_eq]
 have hf : Tryz.prog.fieldsOf 35 = #[{ name := "Head", type := 3, offset := 0, embedded := false, tag := "", pkgPath := "", byteOffset := 0 },
    { name := "Throw", type := 3, offset := 1, embedded := false, tag := "", pkgPath := "", byteOffset := 8 },
    { name := "Advance", type := 3, offset := 2, embedded := false, tag := "", pkgPath := "", byteOffset := 16 },
    { name := "Low", type := 3, offset := 3, embedded := false, tag := "", pkgPath := "", byteOffset := 24 },
    { name := "High", type := 3, offset := 4, embedded := false, tag := "", pkgPath := "", byteOffset := 32 }] := by kernel_rfl
 rw [hf]
 cases h1 : (a == a') <;> cases h2 : (b == b') <;> cases h3 : (c == c') <;> cases h4 : (d == d') <;> cases h5 : (f == f') <;>
  simp [go_sem, h1, h2, h3, h4, h5, Op.eqFields]
attribute [local go_sem ↓ high] run_eqIn_fd
theorem pf_r9_SameFound (va vb : Value) (xs ys : List Fnd) (w : World) (ha : FndL w va xs) (hb : FndL w vb ys) : Calls Tryz.prog 17 #[va, vb] w fun e w' => e = .returned (.bool (decide (xs = ys))) ∧ ∃ n, w' = w.drewN n := by
 obtain ⟨A, c, rfl, hcm⟩ := ha.slice
 obtain ⟨B, d, rfl, hdm⟩ := hb.slice
 unfold maxLen at hcm hdm
 by_cases hl : xs.length = ys.length
 ·have hl2 : xs.length ≤ ys.length := by omega
  have hl3 : ys.length ≤ xs.length := by omega
  have hl4 : (xs.length : Int) = (ys.length : Int) := by omega
  obtain ⟨yl, hyl⟩ : ∃ yl, ys.length = yl := ⟨_, rfl⟩
  obtain rfl : xs.length = yl := hl.trans hyl
  rw [hyl] at hl3 hl2 hdm ⊢
  clear hl4
  have ⟨ha', hb', hl', hyl'⟩ := hyd4 ha hb hl hyl
  clear hyl hl hb ha
  go_enter Tryz.func17, Tryz.ntmps17
  go_wp2
  go_loopw [5] (fun ix wr => ∃ j : Nat, j ≤ xs.length ∧ ix = .int .i64 j ∧ Hid (∃ n, wr = w.drewN n) ∧ Hid (∀ i (h1 : i < xs.length) (h2 : i < ys.length), i < j → xs[i] = ys[i])) (fun ix _ => xs.length - (intOf ix).toNat)
  case atStart => exact ⟨0, Nat.zero_le _, rfl, Lib.hid ⟨0, rfl⟩, Lib.hid fun i _ _ h => absurd h (Nat.not_lt_zero i)⟩
  case round =>
   obtain ⟨j, hj, rfl, hN, hI⟩ := hrel
   obtain ⟨n, hn⟩ := hN.out
   by_cases hlt : j < xs.length
   ·have hlt2 : j < ys.length := by rw [hyl'.out]; exact hlt
    obtain ⟨b, off, c2, heq, hb1, g0, g1, g2, g3, g4⟩ := FndL.cells ha'.out hlt
    injection heq with e1 e2 e3
    subst e1 e3
    clear e2
    obtain ⟨b2, off2, c2, heq, hb2, k0, k1, k2, k3, k4⟩ := FndL.cells hb'.out hlt2
    injection heq with e1 e2 e3
    subst e1 e3
    clear e2
    have hq : ∀ p, wr.cell? p = w.cell? p := fun p => by rw [hn]; simp
    rw [← hq] at g0 g1 g2 g3 g4 k0 k1 k2 k3 k4
    clear hq hb1 hb2
    obtain ⟨⟨x0, x1, x2, x3, x4⟩, hx⟩ : ∃ y, xs[j] = y := ⟨_, rfl⟩
    obtain ⟨⟨y0, y1, y2, y3, y4⟩, hy⟩ : ∃ y, ys[j] = y := ⟨_, rfl⟩
    rw [hx] at g0 g1 g2 g3 g4
    rw [hy] at k0 k1 k2 k3 k4
    simp only at g0 g1 g2 g3 g4 k0 k1 k2 k3 k4
    have j1 : (j : Int) < (xs.length : Int) := by omega
    have j2 : (0 : Int) ≤ (j : Int) := by omega
    obtain ⟨F, hF⟩ : ∃ F, fdEq x0 x1 x2 x3 x4 y0 y1 y2 y3 y4 = F := ⟨_, rfl⟩
    have hrun := fun (W : World) => (run_eqIn_fd x0 x1 x2 x3 x4 y0 y1 y2 y3 y4 W).trans (by rw [hF])
    cases F with
    | true =>
     have hxy : (⟨x0, x1, x2, x3, x4⟩ : Fnd) = ⟨y0, y1, y2, y3, y4⟩ := of_decide_eq_true hF
     have ⟨hx', hy', hn', hxy'⟩ := hyd4 hx hy hn hxy
     clear hxy hn hy hx
     go_wp2
     go_quiet (fail)
     go_wp2
     go_roundw
     case rel => exact ⟨j + 1, by omega, by go_num, Lib.hid ⟨n + nq, by rw [hn'.out]; exact World.drewN_drewN _ _ _⟩, Lib.hid fun i h1 h2 hij => by
      by_cases e : i = j
      ·subst e; rw [hx'.out, hy'.out]; exact hxy'.out
      ·exact hI.out i h1 h2 (by omega)⟩
     case measure => simp [intOf]; omega
    | false =>
     have hxy : decide (xs = ys) = false := decide_eq_false fun h => by
      subst h
      have h2 := hx.symm.trans hy
      have h3 := of_decide_eq_false hF
      exact h3 h2
     have ⟨hx', hy', hn', hxy'⟩ := hyd4 hx hy hn hxy
     clear hxy hn hy hx
     go_wp2
     go_quiet (fail)
     go_wp2
     go_ret
     exact ⟨by rw [hxy'.out]; rfl, ⟨_, by rw [hn'.out]; exact World.drewN_drewN _ _ _⟩⟩
   ·have hfin : decide (xs = ys) = true := decide_eq_true (List.ext_getElem hl'.out fun i h1 h2 => hI.out i h1 h2 (by omega))
    have ⟨hfin', hn'⟩ := hyd2 hfin hn
    clear hn hfin
    go_wp2
    go_ret
    exact ⟨by rw [hfin'.out]; rfl, n, hn'.out⟩
 ·have hne : decide (xs = ys) = false := decide_eq_false fun h => hl (by rw [h])
  have hli : ¬ (xs.length : Int) = (ys.length : Int) := by omega
  have hli2 : ¬ (ys.length : Int) = (xs.length : Int) := by omega
  obtain ⟨xl, hxl⟩ : ∃ xl, xs.length = xl := ⟨_, rfl⟩
  obtain ⟨yl, hyl⟩ : ∃ yl, ys.length = yl := ⟨_, rfl⟩
  rw [hxl] at hl hli hli2 hcm ⊢
  rw [hyl] at hl hli hli2 hdm ⊢
  have ⟨ha', hb', hne', hxl', hyl'⟩ := hyd5 ha hb hne hxl hyl
  clear hyl hxl hne hb ha
  go_enter Tryz.func17, Tryz.ntmps17
  go_wp2
  go_ret
  exact ⟨by rw [hne'.out]; rfl, 0, rfl⟩
end Go.Proofs.YtphdalgaemefoaaGreat
