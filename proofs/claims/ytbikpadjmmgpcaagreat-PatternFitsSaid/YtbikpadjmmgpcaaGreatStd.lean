/- Contracts of the functions of package slices at []int that the program uses. More of package slices at []int: Grow, Concat, Equal. Numbers counted around: the three texts of one function. -/
import Derived.Test.YtbikpadjmmgpcaaGreatBase
import Derived.Lib.AppendZeros
namespace Go.Proofs.YtbikpadjmmgpcaaGreat
open Go.RowKit

/-- The index of the first element that satisfies p, or -1. -/
def idx {α : Type} (p : α → Bool) (zs : List α) : Int := match zs.findIdx? p with | some k => k | none => -1
theorem idx_hit {α : Type} (p : α → Bool) (zs : List α) (k : Nat) (h : k < zs.length) (hp : p zs[k] = true) (hn : ∀ j (h : j < zs.length), j < k → p zs[j] = false) : (k : Int) = idx p zs := by
  have : zs.findIdx? p = some k := by
    rw [List.findIdx?_eq_some_iff_getElem]
    exact ⟨h, hp, fun j hj => by have := hn j (by omega) hj; simp [this]⟩
  unfold idx; rw [this]
theorem idx_miss {α : Type} (p : α → Bool) (zs : List α) (hn : ∀ j (h : j < zs.length), p zs[j] = false) : (-1 : Int) = idx p zs := by
  have : zs.findIdx? p = none := by
    rw [List.findIdx?_eq_none_iff]
    intro x hx
    obtain ⟨j, hj, rfl⟩ := List.mem_iff_getElem.1 hx
    exact hn j hj
  unfold idx; rw [this]
theorem idx_any {α : Type} (p : α → Bool) (zs : List α) : decide (0 ≤ idx p zs) = zs.any p := by
  unfold idx
  cases h : zs.findIdx? p with
  | none =>
    rw [List.findIdx?_eq_none_iff] at h
    have : zs.any p = false := by simp only [List.any_eq_false]; intro x hx; simp [h x hx]
    simp [this]
  | some k =>
    rw [List.findIdx?_eq_some_iff_getElem] at h
    obtain ⟨hk, hp, _⟩ := h
    have : zs.any p = true := List.any_eq_true.2 ⟨_, List.getElem_mem hk, hp⟩
    simp [this]

theorem pf_IndexFunc (p : Int → Bool) (g : FuncId) (cap : Array Value) (v : Value) (zs : List Int) (w : World) (hv : Ints w v zs)
   (hg : Plain Tryz.prog g)
   (hf : ∀ x, x ∈ zs → Calls Tryz.prog g (#[.int .i64 x] ++ cap) w (fun e w2 => e = .returned (.bool (p x)) ∧ w = w2)) :
    Calls Tryz.prog 37 #[v, .func (.func g) #[] cap] w fun e w' => e = .returned (.int .i64 (idx p zs)) ∧ w = w' := by
  obtain ⟨A, c, rfl, hlc, hcm, _, hr⟩ := hv
  unfold Plain at hg
  unfold maxLen at hcm
  go_enter Tryz.func37, Tryz.ntmps37
  go_wp2
  go_loop [8, 4] (fun i r => ∃ k : Nat, k ≤ zs.length ∧ i = .int .i64 k ∧ r = .int .i64 0 ∧ ∀ j (h : j < zs.length), j < k → p zs[j] = false) (fun i _ => zs.length - (intOf i).toNat)
  case atStart => exact ⟨0, Nat.zero_le _, rfl, rfl, fun j _ h => absurd h (by omega)⟩
  case round =>
    obtain ⟨k, hk, rfl, rfl, hp⟩ := hrel
    have hp' := Lib.hid hp
    clear hp
    by_cases hlt : k < zs.length
    · obtain ⟨b, off, rfl, hb, hc⟩ := hr (by omega)
      have hck := hc k hlt
      have hmem := List.getElem_mem hlt
      generalize hx : zs[k] = x at hck hmem
      have hx' := Lib.hid hx
      clear hc hr hx
      by_cases hpx : p x = true
      · go_wp2_with (first | (refine (hf x hmem).mono ?_; rintro e w' ⟨rfl, rfl⟩))
        go_ret
        exact ⟨ret_int (idx_hit p zs k hlt (by rw [hx'.out]; exact hpx) hp'.out), rfl⟩
      · have hpx' : p x = false := by simpa using hpx
        go_wp2_with (first | (refine (hf x hmem).mono ?_; rintro e w' ⟨rfl, rfl⟩))
        go_round
        case rel => exact ⟨k + 1, by omega, by go_num, rfl, fun j h hj => by
          by_cases hjk : j = k
          · subst hjk; rw [hx'.out]; exact hpx'
          · exact hp'.out j h (by omega)⟩
        case measure => simp [intOf]; omega
    · go_wp2
      go_ret
      exact ⟨ret_int (idx_miss p zs fun j h => hp'.out j h (by omega)), rfl⟩
theorem pf_ContainsFunc (p : Int → Bool) (g : FuncId) (cap : Array Value) (v : Value) (zs : List Int) (w : World) (hv : Ints w v zs)
   (hg : Plain Tryz.prog g)
   (hf : ∀ x, x ∈ zs → Calls Tryz.prog g (#[.int .i64 x] ++ cap) w (fun e w2 => e = .returned (.bool (p x)) ∧ w = w2)) :
    Calls Tryz.prog 18 #[v, .func (.func g) #[] cap] w fun e w' => e = .returned (.bool (zs.any p)) ∧ w = w' := by
  go_enter Tryz.func18, Tryz.ntmps18
  go_wp2_with (first | (go_at_call 37; refine (pf_IndexFunc p g cap _ zs _ hv hg hf).mono ?_; rintro e w' ⟨rfl, rfl⟩))
  go_ret
  exact ⟨ret_bool (idx_any p zs), rfl⟩
theorem elemInt : Elem1 Tryz.prog 22 3 (.int .i64 0) 8 := ⟨Tryz.underlying22, by kernel_rfl, rfl⟩
theorem pf_Clone (v : Value) (zs : List Int) (w : World) (hv : Ints w v zs) (hlen : zs.length ≤ 1000000) :
    Calls Tryz.prog 21 #[v] w fun e w' => ∃ v', e = .returned v' ∧ Below w.heap.size w w' ∧ w'.ownsRow w.heap.size 3 1 v' zs.length (zs.map vint) ∧ (v'.ownBlock = none → v = .slice none 0 0) := by
  by_cases hs : ∃ a n c, v = .slice (some a) n c
  · obtain ⟨a, n, c, rfl⟩ := hs
    have hnil := fun W => Lib.run_eql_slice_nil (P := Tryz.prog) W 22 3 (some a) n c 0 0 Tryz.underlying22
    go_enter Tryz.func21, Tryz.ntmps21
    go_wp2_with (first | (at_builtin; go_must (refine wpList_appI rfl _ _ 22 rfl w.heap.size 3 elemInt _ [] rfl (own_empty _ _ _ (Nat.le_refl _)) _ zs rfl ?_ ?_ ?_ ?_)))
    · exact hv.below ((Below.refl _ _).alloc (Nat.le_refl _) _)
    · simp; omega
    · simp
    · intro v' w' h1 h2 h3 h4
      go_wp2
      go_ret
      exact ⟨_, rfl, ((Below.refl _ _).alloc (Nat.le_refl _) _).trans h2, by simpa using h1, fun h => absurd (h4.1 h).1 (by simp [Value.ownBlock])⟩
  · obtain ⟨rfl, rfl⟩ := hv.nil_of fun a n c hh => hs ⟨a, n, c, hh⟩
    have hnil := fun W => Lib.run_eql_slice_nil (P := Tryz.prog) W 22 3 none 0 0 0 0 Tryz.underlying22
    go_enter Tryz.func21, Tryz.ntmps21
    go_wp2
    go_ret
    exact ⟨_, rfl, Below.refl _ _, World.ownsRow_nil _ _ _ _, by simp⟩
end Go.Proofs.YtbikpadjmmgpcaaGreat
namespace Go.Proofs.YtbikpadjmmgpcaaGreat
open Go.RowKit
set_option linter.unusedVariables false
set_option linter.unusedSimpArgs false
set_option maxHeartbeats 1000000 in
theorem pf_Equal (v v' : Value) (xs ys : List Int) (w : World) (hx : Ints w v xs) (hy : Ints w v' ys) :
    Calls Tryz.prog 20 #[v, v'] w fun e w' => e = .returned (.bool (xs == ys)) ∧ ∃ n, w' = w.drewN n := by
  obtain ⟨A, c, rfl, hlc, hcm, _, hr⟩ := hx
  obtain ⟨A', c', rfl, hlc', hcm', _, hr'⟩ := hy
  unfold maxLen at hcm hcm'
  have hr1 := Lib.hid hr
  have hr2 := Lib.hid hr'
  clear hr hr'
  by_cases hl : xs.length = ys.length
  · have hl' := Lib.hid hl
    have hl1 : ((xs.length : Int) != (ys.length : Int)) = false := by simp [hl]
    clear hl
    go_enter Tryz.func20, Tryz.ntmps20
    go_wp2
    go_loopw [13] (fun i wr => ∃ k : Nat, k ≤ xs.length ∧ i = .int .i64 k ∧ Hid (∃ n, wr = w.drewN n) ∧ Hid (xs.take k = ys.take k)) (fun i _ => xs.length - (intOf i).toNat)
    case atStart => exact ⟨0, Nat.zero_le _, rfl, ⟨0, rfl⟩, rfl⟩
    case round =>
      obtain ⟨k, hk, rfl, hdr, hpre⟩ := hrel
      obtain ⟨nd, hnd⟩ := hdr.out
      subst hnd
      by_cases hlt : k < xs.length
      · have hlt' : k < ys.length := by have := hl'.out; omega
        obtain ⟨b1, off1, rfl, hb1, hc1⟩ := hr1.out (by omega)
        obtain ⟨b2, off2, rfl, hb2, hc2⟩ := hr2.out (by omega)
        have hk1 : w.cell? ⟨b1, off1 + k, none⟩ = some (.int .i64 xs[k]) := hc1 k hlt
        have hk2 : w.cell? ⟨b2, off2 + k, none⟩ = some (.int .i64 ys[k]) := hc2 k hlt'
        have ht1 : xs.take (k + 1) = xs.take k ++ [xs[k]] := by rw [List.take_add_one, List.getElem?_eq_getElem hlt]; rfl
        have ht2 : ys.take (k + 1) = ys.take k ++ [ys[k]] := by rw [List.take_add_one, List.getElem?_eq_getElem hlt']; rfl
        have ht1' := Lib.hid ht1
        have ht2' := Lib.hid ht2
        generalize hxk : xs[k] = x at hk1 ht1'
        generalize hyk : ys[k] = y at hk2 ht2'
        have i1 : (0 : Int) ≤ (k : Int) := by omega
        have i2 : (k : Int) < (xs.length : Int) := by omega
        have i3 : (k : Int) < (ys.length : Int) := by omega
        clear hc1 hc2 ht1 ht2 hdr
        by_cases hxy : x = y
        · subst hxy
          have hz : (x != x) = false := by simp
          clear hxk hyk
          go_wp2
          go_quiet (fail)
          go_wp2
          go_roundw
          case rel => exact ⟨k + 1, by omega, by go_num, ⟨_, rfl⟩, by rw [ht1'.out, ht2'.out, hpre.out]; exact rfl⟩
          case measure => simp [intOf]; omega
        · have hz : (x != y) = true := by simpa using hxy
          have hne : (xs == ys) = false := by
            rw [beq_eq_false_iff_ne]
            intro he
            subst he
            exact hxy (hxk.symm.trans hyk)
          have hne' := Lib.hid hne
          clear hxk hyk hne hxy
          go_wp2
          go_quiet (fail)
          go_wp2
          go_ret
          exact ⟨ret_bool (by rw [hne'.out]), ⟨_, World.drewN_drewN _ _ _⟩⟩
      · have he : (xs == ys) = true := by
          rw [beq_iff_eq]
          have h := hpre.out
          rwa [List.take_of_length_le (by omega), List.take_of_length_le (by have := hl'.out; omega)] at h
        have he' := Lib.hid he
        clear he
        go_wp2
        go_ret
        exact ⟨ret_bool (by rw [he'.out]), ⟨nd, rfl⟩⟩
  · have hl1 : ((xs.length : Int) != (ys.length : Int)) = true := by simp; omega
    have he : (xs == ys) = false := by
      rw [beq_eq_false_iff_ne]
      intro h
      exact hl (by rw [h])
    rw [he]
    clear he hl
    go_enter Tryz.func20, Tryz.ntmps20
    go_wp2
    go_ret
    exact ⟨rfl, ⟨0, rfl⟩⟩
end Go.Proofs.YtbikpadjmmgpcaaGreat
namespace Go.Proofs.YtbikpadjmmgpcaaGreat
open Go.RowKit
set_option linter.unusedVariables false
set_option linter.unusedSimpArgs false
theorem tmod_facts (p n : Int) (hn : 0 < n) : -n < p.tmod n ∧ p.tmod n < n ∧ (p.tmod n < 0 → p.tmod n + n = p % n) ∧ (0 ≤ p.tmod n → p.tmod n = p % n) := by
  have h1 := Int.tmod_lt_of_pos p hn
  have h2 : -n < p.tmod n := by
    have := Int.tmod_lt_of_pos (-p) hn
    rw [Int.neg_tmod] at this; omega
  have h3 := Int.mul_tdiv_add_tmod p n
  refine ⟨h2, h1, fun h => ?_, fun h => ?_⟩
  · have e : p = (p.tmod n + n) + n * (p.tdiv n - 1) := by rw [Int.mul_sub]; omega
    conv => rhs; rw [e, Int.add_mul_emod_self_left]
    rw [Int.emod_eq_of_lt (by omega) (by omega)]
  · have e : p = p.tmod n + n * p.tdiv n := by omega
    conv => rhs; rw [e, Int.add_mul_emod_self_left]
    rw [Int.emod_eq_of_lt (by omega) (by omega)]
def Mid (p : Int) : Prop := -1000000000000000 ≤ p ∧ p ≤ 1000000000000000
theorem pf_pat_modulo (p n : Int) (w : World) (hn : 0 < n) (hn2 : n ≤ 1000000000) (hp : Mid p) :
    Calls Tryz.prog 19 #[.int .i64 p, .int .i64 n] w fun e w' => e = .returned (.int .i64 (p % n)) ∧ w = w' := by
  obtain ⟨hp1, hp2⟩ := hp
  obtain ⟨f1, f2, f3, f4⟩ := tmod_facts p n hn
  by_cases h0 : 0 ≤ p
  · have h5 := Int.emod_lt_of_pos p hn
    have h6 := Int.emod_nonneg p (show n ≠ 0 by omega)
    clear f1 f2 f3 f4
    go_enter Tryz.func19, Tryz.ntmps19
    go_wp2
    go_ret
    exact ⟨rfl, rfl⟩
  · by_cases h1 : p.tmod n < 0
    · have h2 := Lib.hid (f3 h1)
      clear f3 f4
      go_enter Tryz.func19, Tryz.ntmps19
      go_wp2
      go_ret
      exact ⟨ret_int h2.out, rfl⟩
    · have h2 := Lib.hid (f4 (by omega))
      clear f3 f4
      go_enter Tryz.func19, Tryz.ntmps19
      go_wp2
      go_ret
      exact ⟨ret_int h2.out, rfl⟩
theorem pf_r3_Around (p n : Int) (w : World) (hn : 0 < n) (hn2 : n ≤ 1000000000) (hp : Mid p) :
    Calls Tryz.prog 23 #[.int .i64 p, .int .i64 n] w fun e w' => e = .returned (.int .i64 (p % n)) ∧ w = w' := by
  obtain ⟨hp1, hp2⟩ := hp
  obtain ⟨f1, f2, f3, f4⟩ := tmod_facts p n hn
  by_cases h0 : 0 ≤ p
  · have h5 := Int.emod_lt_of_pos p hn
    have h6 := Int.emod_nonneg p (show n ≠ 0 by omega)
    have h7 : (p % n + n) % n = p % n := by rw [Int.add_emod_right]; exact Int.emod_eq_of_lt h6 h5
    have h7' := Lib.hid h7
    clear f1 f2 f3 f4 h7
    go_enter Tryz.func23, Tryz.ntmps23
    go_wp2
    go_ret
    exact ⟨ret_int h7'.out, rfl⟩
  · have h7 : (p.tmod n + n) % n = p % n := by
      by_cases h1 : p.tmod n < 0
      · rw [f3 h1]; exact Int.emod_emod_of_dvd _ (Int.dvd_refl n)
      · rw [f4 (by omega), Int.add_emod_right]; exact Int.emod_emod_of_dvd _ (Int.dvd_refl n)
    have h8 : p.tmod n % n = p % n := by rw [Int.add_emod_right] at h7; exact h7
    have h7' := Lib.hid h8
    clear f3 f4 h7 h8
    go_enter Tryz.func23, Tryz.ntmps23
    go_wp2
    go_ret
    exact ⟨ret_int h7'.out, rfl⟩
end Go.Proofs.YtbikpadjmmgpcaaGreat
