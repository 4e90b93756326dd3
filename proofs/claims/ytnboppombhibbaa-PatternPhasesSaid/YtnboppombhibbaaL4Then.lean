/- The laws' helper then: one move after another one. Equality of moves. -/
import Derived.Test.YtnboppombhibbaaAlive
import Derived.Test.YtnboppombhibbaaTakenLaw
namespace Go.Proofs.Ytnboppombhibbaa
open Go.RowKit Go.Lib
set_option linter.unusedVariables false
set_option linter.unusedSimpArgs false
/-- Equality of moves, as a Boolean. -/
def mvEq (a b : Int) (c d : Bool) (a' b' : Int) (c' d' : Bool) : Bool := decide ((⟨a, b, c, d⟩ : Mv) = ⟨a', b', c', d'⟩)
theorem mvEq_eq (a b : Int) (c d : Bool) (a' b' : Int) (c' d' : Bool) : mvEq a b c d a' b' c' d' = (a == a' && (b == b' && (c == c' && d == d'))) := by
  unfold mvEq
  rw [Bool.eq_iff_iff]
  simp
theorem run_eqIn_mv (a b a' b' : Int) (c d c' d' : Bool) (w : World) : (Op.equalIn 10000 68 (.agg #[.int .i64 a, .int .i64 b, .bool c, .bool d]) (.agg #[.int .i64 a', .int .i64 b', .bool c', .bool d'])).run Try.prog w = .ok (mvEq a b c d a' b' c' d') w := by
  rw [run_equalIn_struct w 9999 68 _ _ (by kernel_rfl) (by kernel_rfl), mvEq_eq]
  have hf : Try.prog.fieldsOf 68 = #[{ name := "Cuts", type := 3, offset := 0, embedded := false, tag := "", pkgPath := "", byteOffset := 0 },
        { name := "Turn", type := 3, offset := 1, embedded := false, tag := "", pkgPath := "", byteOffset := 8 },
        { name := "Mirror", type := 4, offset := 2, embedded := false, tag := "", pkgPath := "", byteOffset := 16 },
        { name := "Back", type := 4, offset := 3, embedded := false, tag := "", pkgPath := "", byteOffset := 17 }] := by kernel_rfl
  rw [hf]
  cases h1 : (a == a') <;> cases h2 : (b == b') <;> cases h3 : (c == c') <;> cases h4 : (d == d') <;>
    simp [go_sem, h1, h2, h3, h4, Op.eqFields]
attribute [local go_sem ↓ high] run_eqIn_mv
theorem tmod_twice (z n m : Int) (hn : 0 < n) (hm : z.tmod n = m) : (m + n).tmod n = z % n := by
  obtain ⟨f1, f2, f3, f4⟩ := tmod_facts z n hn
  rw [hm] at f1 f2 f3 f4
  rw [Int.tmod_eq_emod_of_nonneg (by omega), Int.add_emod_right]
  by_cases h0 : m < 0
  · have h1 := f3 h0
    rw [← h1, ← Int.add_emod_right]
    exact Int.emod_eq_of_lt (by omega) (by omega)
  · have h1 := f4 (by omega)
    rw [h1, Int.emod_emod]
set_option maxRecDepth 100000 in
set_option maxHeartbeats 4000000 in
theorem pf_then (xc xt yc yt : Int) (xm xb ym yb : Bool) (n N : Nat) (w : World) (hx1 : -1000000 ≤ xc ∧ xc ≤ 1000000) (hx2 : -1000000 ≤ xt ∧ xt ≤ 1000000) (hy1 : -1000000 ≤ yc ∧ yc ≤ 1000000) (hy2 : -1000000 ≤ yt ∧ yt ≤ 1000000) (hn : 1 ≤ n ∧ n ≤ 1000000) (hN : 1 ≤ N ∧ N ≤ 1000000) :
    Calls Try.prog 44 #[.agg #[.int .i64 xc, .int .i64 xt, .bool xm, .bool xb], .agg #[.int .i64 yc, .int .i64 yt, .bool ym, .bool yb], .int .i64 n, .int .i64 N] w fun e w' => e = .returned (.agg #[.int .i64 (compC yb yc xc % n), .int .i64 (compC ym yt xt % N), .bool (xm ^^ ym), .bool (xb ^^ yb)]) ∧ Below w.heap.size w w' := by
  have hni : (0 : Int) < n := by omega
  have hNi : (0 : Int) < N := by omega
  have hnz : ¬ (n : Int) = 0 := by omega
  have hNz : ¬ (N : Int) = 0 := by omega
  have w1 : IntKind.i64.wrap (yc + xc) = yc + xc := IntWalk.i64_in _ (by omega)
  have w2 : IntKind.i64.wrap (yc - xc) = yc - xc := IntWalk.i64_in _ (by omega)
  have w3 : IntKind.i64.wrap (yt + xt) = yt + xt := IntWalk.i64_in _ (by omega)
  have w4 : IntKind.i64.wrap (yt - xt) = yt - xt := IntWalk.i64_in _ (by omega)
  obtain ⟨z, hz⟩ : ∃ z, compC yb yc xc = z := ⟨_, rfl⟩
  obtain ⟨y, hy⟩ : ∃ y, compC ym yt xt = y := ⟨_, rfl⟩
  obtain ⟨a, ha⟩ : ∃ a, z.tmod n = a := ⟨_, rfl⟩
  obtain ⟨b, hb⟩ : ∃ b, y.tmod N = b := ⟨_, rfl⟩
  obtain ⟨r, hr⟩ : ∃ r, z % (n : Int) = r := ⟨_, rfl⟩
  obtain ⟨s, hs⟩ : ∃ s, y % (N : Int) = s := ⟨_, rfl⟩
  have e1 : (a + n).tmod n = r := (tmod_twice z n a hni ha).trans hr
  have e2 : (b + N).tmod N = s := (tmod_twice y N b hNi hb).trans hs
  obtain ⟨f1, f2, -, -⟩ := tmod_facts z n hni
  obtain ⟨g1, g2, -, -⟩ := tmod_facts y N hNi
  rw [ha] at f1 f2
  rw [hb] at g1 g2
  have w5 : IntKind.i64.wrap (a + n) = a + n := IntWalk.i64_in _ (by omega)
  have w6 : IntKind.i64.wrap (b + N) = b + N := IntWalk.i64_in _ (by omega)
  rw [hz, hy, hr, hs]
  clear f1 f2 g1 g2 hr hs
  cases yb
  all_goals
    cases ym
    all_goals
      first | (have kz : yc + xc = z := hz; clear hz; subst kz) | (have kz : yc - xc = z := hz; clear hz; subst kz)
      first | (have ky : yt + xt = y := hy; clear hy; subst ky) | (have ky : yt - xt = y := hy; clear hy; subst ky)
      go_enter Try.func44, Try.ntmps44
      go_wp2
      refine bodyPost_ret (v := .agg #[.int .i64 r, .int .i64 s, .bool _, .bool _]) (by simp [results, Try.results44, go_sem]) rfl ⟨rfl, ?_⟩
      exact (alc3 _ _ _ _).trans ((alc1 _ _).mono (by simp; omega))
end Go.Proofs.Ytnboppombhibbaa
