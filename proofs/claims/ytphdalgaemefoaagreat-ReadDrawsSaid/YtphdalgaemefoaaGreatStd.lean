/- Contracts of the functions of package slices at []int that the program uses. More of package slices at []int: Grow, Concat, Equal. Numbers counted around: the three texts of one function. -/
import Derived.Test.YtphdalgaemefoaaGreatBase
import Derived.Lib.AppendZeros
namespace Go.Proofs.YtphdalgaemefoaaGreat
set_option maxRecDepth 100000
set_option maxHeartbeats 1000000
open Go.RowKit

def idx {α : Type} (p : α → Bool) (zs : List α) : Int := match zs.findIdx? p with | some k => k | none => -1
theorem idx_hit {α : Type} (p : α → Bool) (zs : List α) (k : Nat) (h : k < zs.length) (hp : p zs[k] = true) (hn : ∀ j (h : j < zs.length), j < k → p zs[j] = false) : (k : Int) = idx p zs := by
 have : zs.findIdx? p = some k := by
  rw [List.findIdx?_eq_some_iff_getElem]
  exact ⟨h, hp, fun j hj => by have := hn j (by omega) hj; simp [this]⟩
 unfold idx; rw [this]
theorem idx_miss {α : Type} (p : α → Bool) (zs : List α) (hn : ∀ j (h : j < zs.length), p zs[j] = false) : (-1 : Int) = idx p zs := by
 have : zs.findIdx? p = none := by
  rw [List.findIdx?_eq_none_iff]
  intro x hx
  obtain ⟨j, hj, rfl⟩ := List.mem_iff_getElem.1 hx
  exact hn j hj
 unfold idx; rw [this]
theorem idx_any {α : Type} (p : α → Bool) (zs : List α) : decide (0 ≤ idx p zs) = zs.any p := by
 unfold idx
 cases h : zs.findIdx? p with
 | none =>
  rw [List.findIdx?_eq_none_iff] at h
  have : zs.any p = false := by simp only [List.any_eq_false]; intro x hx; simp [h x hx]
  simp [this]
 | some k =>
  rw [List.findIdx?_eq_some_iff_getElem] at h
  obtain ⟨hk, hp, _⟩ := h
  have : zs.any p = true := List.any_eq_true.2 ⟨_, List.getElem_mem hk, hp⟩
  simp [this]

theorem pf_IndexFunc (p : Int → Bool) (g : FuncId) (cap : Array Value) (v : Value) (zs : List Int) (w : World) (hv : Ints w v zs)
  (hg : Plain Tryz.prog g)
  (hf : ∀ x, x ∈ zs → Calls Tryz.prog g (#[.int .i64 x] ++ cap) w (fun e w2 => e = .returned (.bool (p x)) ∧ w = w2)) :
  Calls Tryz.prog 53 #[v, .func (.func g) #[] cap] w fun e w' => e = .returned (.int .i64 (idx p zs)) ∧ w = w' := by
 obtain ⟨A, c, rfl, hlc, hcm, _, hr⟩ := hv
 unfold Plain at hg
 unfold maxLen at hcm
 go_enter Tryz.func53, Tryz.ntmps53
 go_wp2
 go_loop [8, 4] (fun i r => ∃ k : Nat, k ≤ zs.length ∧ i = .int .i64 k ∧ r = .int .i64 0 ∧ ∀ j (h : j < zs.length), j < k → p zs[j] = false) (fun i _ => zs.length - (intOf i).toNat)
 case atStart => exact ⟨0, Nat.zero_le _, rfl, rfl, fun j _ h => absurd h (by omega)⟩
 case round =>
  obtain ⟨k, hk, rfl, rfl, hp⟩ := hrel
  have hp' := hyd1 hp
  clear hp
  by_cases hlt : k < zs.length
  ·obtain ⟨b, off, rfl, hb, hc⟩ := hr (by omega)
   have hck := hc k hlt
   have hmem := List.getElem_mem hlt
   generalize hx : zs[k] = x at hck hmem
   have hx' := hyd1 hx
   clear hc hr hx
   by_cases hpx : p x = true
   ·go_wp2_with (first | (refine (hf x hmem).mono ?_; rintro e w' ⟨rfl, rfl⟩))
    go_ret
    exact ⟨ret_int (idx_hit p zs k hlt (by rw [hx'.out]; exact hpx) hp'.out), rfl⟩
   ·have hpx' : p x = false := by simpa using hpx
    go_wp2_with (first | (refine (hf x hmem).mono ?_; rintro e w' ⟨rfl, rfl⟩))
    go_round
    case rel => exact ⟨k + 1, by omega, by go_num, rfl, fun j h hj => by
     by_cases hjk : j = k
     ·subst hjk; rw [hx'.out]; exact hpx'
     ·exact hp'.out j h (by omega)⟩
    case measure => simp [intOf]; omega
  ·go_wp2
   go_ret
   exact ⟨ret_int (idx_miss p zs fun j h => hp'.out j h (by omega)), rfl⟩
theorem pf_ContainsFunc (p : Int → Bool) (g : FuncId) (cap : Array Value) (v : Value) (zs : List Int) (w : World) (hv : Ints w v zs)
  (hg : Plain Tryz.prog g)
  (hf : ∀ x, x ∈ zs → Calls Tryz.prog g (#[.int .i64 x] ++ cap) w (fun e w2 => e = .returned (.bool (p x)) ∧ w = w2)) :
  Calls Tryz.prog 29 #[v, .func (.func g) #[] cap] w fun e w' => e = .returned (.bool (zs.any p)) ∧ w = w' := by
 go_enter Tryz.func29, Tryz.ntmps29
 go_wp2_with (first | (go_at_call 53; refine (pf_IndexFunc p g cap _ zs _ hv hg hf).mono ?_; rintro e w' ⟨rfl, rfl⟩))
 go_ret
 exact ⟨ret_bool (idx_any p zs), rfl⟩
theorem elemInt : Elem1 Tryz.prog 36 3 (.int .i64 0) 8 := ⟨Tryz.underlying36, by kernel_rfl, rfl⟩
theorem pf_Clone (v : Value) (zs : List Int) (w : World) (hv : Ints w v zs) (hlen : zs.length ≤ 1000000) :
  Calls Tryz.prog 24 #[v] w fun e w' => ∃ v', e = .returned v' ∧ Below w.heap.size w w' ∧ w'.ownsRow w.heap.size 3 1 v' zs.length (zs.map vint) ∧ (v'.ownBlock = none → v = .slice none 0 0) := by
 by_cases hs : ∃ a n c, v = .slice (some a) n c
 ·obtain ⟨a, n, c, rfl⟩ := hs
  have hnil := fun W => Lib.run_eql_slice_nil (P := Tryz.prog) W 36 3 (some a) n c 0 0 Tryz.underlying36
  go_enter Tryz.func24, Tryz.ntmps24
  go_wp2_with (first | (at_builtin; go_must (refine wpList_appI rfl _ _ 36 rfl w.heap.size 3 elemInt _ [] rfl (own_empty _ _ _ (Nat.le_refl _)) _ zs rfl ?_ ?_ ?_ ?_)))
  ·exact hv.below ((Below.refl _ _).alloc (Nat.le_refl _) _)
  ·simp; omega
  ·simp
  ·intro v' w' h1 h2 h3 h4
   go_wp2
   go_ret
   exact ⟨_, rfl, ((Below.refl _ _).alloc (Nat.le_refl _) _).trans h2, by simpa using h1, fun h => absurd (h4.1 h).1 (by simp [Value.ownBlock])⟩
 ·obtain ⟨rfl, rfl⟩ := hv.nil_of fun a n c hh => hs ⟨a, n, c, hh⟩
  have hnil := fun W => Lib.run_eql_slice_nil (P := Tryz.prog) W 36 3 none 0 0 0 0 Tryz.underlying36
  go_enter Tryz.func24, Tryz.ntmps24
  go_wp2
  go_ret
  exact ⟨_, rfl, Below.refl _ _, World.ownsRow_nil _ _ _ _, by simp⟩
end Go.Proofs.YtphdalgaemefoaaGreat
namespace Go.Proofs.YtphdalgaemefoaaGreat
set_option maxRecDepth 100000
set_option maxHeartbeats 1000000
open Go.RowKit
set_option linter.unusedVariables false
set_option linter.unusedSimpArgs false
theorem pf_Grow_nil (n : Nat) (hn : n ≤ 1000000) (w : World) :
  Calls Tryz.prog 72 #[.slice none 0 0, .int .i64 n] w fun e w' => ∃ v', e = .returned v' ∧ Below w.heap.size w w' ∧ w'.ownsRow w.heap.size 3 1 v' 0 [] := by
 by_cases h0 : n = 0
 ·subst h0
  go_enter Tryz.func72, Tryz.ntmps72
  go_wp2
  go_ret
  exact ⟨_, rfl, Below.refl _ _, World.ownsRow_nil _ _ _ _⟩
 ·have hi := (elemInt : Elem1 Tryz.prog 36 3 (.int .i64 0) 8)
  obtain ⟨ht, hi1, hzs⟩ := hi
  obtain ⟨i, hi0, hz, hsz, hby⟩ := info_parts hi1
  have hrun := fun W ty => Lib.run_append_nil_zeros (P := Tryz.prog) W 36 3 ty 3 i (.int .i64 0) .i64 .i64 ht Tryz.underlying3 hi0 hz n (by omega) (by omega) (by omega) (by rw [hby]; omega)
  have hge := fun W : World => grownCap_ge W n 0 3
  have hle := fun W : World => grownCap_le_maxLen W n 0 3 (by unfold maxLen; omega)
  have ⟨hrun', hge', hle'⟩ := hyd3 hrun hge hle
  clear hrun hge hle hi1 ht hi0 hz hsz hby hzs
  have hpos : (0 : Int) < (n : Int) := by omega
  go_enter Tryz.func72, Tryz.ntmps72
  go_wp2_with (first | (at_builtin; go_must (refine Lib.wpList_append_run _ rfl _ _ _ _ rfl _ _ rfl rfl _ _ (hrun'.out _ _) ?_)))
  go_ret
  refine ⟨_, rfl, ((Below.refl _ _).alloc (Nat.le_refl _) _).drew, ?_⟩
  have hs := hge'.out w
  exact World.ownsRow_made w _ _ (Nat.le_refl _) (hle'.out w) (by simp [size_zeroCells]; omega)
def catK (l : List (List Int)) (k : Nat) : List Int := (l.take k).flatten
theorem flat_take_succ (l : List (List Int)) (k : Nat) (h : k < l.length) : catK l (k + 1) = catK l k ++ l[k] := by
 unfold catK
 have e : l.take (k + 1) = l.take k ++ [l[k]] := by rw [List.take_add_one, List.getElem?_eq_getElem h]; rfl
 rw [e, List.flatten_append]; simp
theorem flat_take_le (l : List (List Int)) (k : Nat) : (catK l k).length ≤ l.flatten.length := by
 have e : l.flatten = (l.take k).flatten ++ (l.drop k).flatten := by rw [← List.flatten_append, List.take_append_drop]
 unfold catK
 rw [e, List.length_append]; omega
theorem catK_all (l : List (List Int)) (k : Nat) (h : l.length ≤ k) : catK l k = l.flatten := by
 unfold catK; rw [List.take_of_length_le h]
theorem pf_Concat (v : Value) (vs : List Value) (zss : List (List Int)) (w : World) (hv : Arr id w v vs) (hl : vs.length = zss.length) (hi : ∀ k (h : k < zss.length) (h' : k < vs.length), Ints w vs[k] zss[k]) (hn : zss.flatten.length ≤ 1000000) (hz : zss.length ≤ 1000000) :
  Calls Tryz.prog 58 #[v] w fun e w' => ∃ v', e = .returned v' ∧ Below w.heap.size w w' ∧ w'.ownsRow w.heap.size 3 1 v' zss.flatten.length (zss.flatten.map vint) := by
 obtain ⟨F0, hF0⟩ : ∃ F0, F0 = zss.flatten := ⟨_, rfl⟩
 have hFz : ∀ k, (catK zss k).length ≤ F0.length := fun k => by rw [hF0]; exact flat_take_le zss k
 rw [← hF0] at hn ⊢
 have ⟨hF0', hFz'⟩ := hyd2 hF0 hFz
 clear hF0 hFz
 obtain ⟨A, c, rfl, hlc, hcm, _, hr⟩ := hv
 unfold maxLen at hcm
 have ⟨hr', hi', hl'⟩ := hyd3 hr hi hl
 have hln : vs.length ≤ 1000000 := by omega
 clear hr hi hl
 go_enter Tryz.func58, Tryz.ntmps58
 go_wp2
 go_loop [11, 3] (fun i s => ∃ k : Nat, k ≤ vs.length ∧ i = .int .i64 k ∧ s = .int .i64 ((catK zss k).length : Nat)) (fun i _ => vs.length - (intOf i).toNat)
 case atStart => exact ⟨0, Nat.zero_le _, rfl, rfl⟩
 case round =>
  obtain ⟨k, hk, rfl, rfl⟩ := hrel
  by_cases hlt : k < vs.length
  ·obtain ⟨b, off, rfl, hb, hc⟩ := hr'.out (by omega)
   have hck : w.cell? ⟨b, off + k, none⟩ = some vs[k] := hc k hlt
   have hlz : k < zss.length := by have := hl'.out; omega
   obtain ⟨eA, ec, hve, helc, hecm, _, _⟩ := hi'.out k hlz hlt
   rw [hve] at hck
   have hfs := Lib.hid (flat_take_succ zss k hlz)
   have hfl := hFz'.out (k + 1)
   rw [hfs.out, List.length_append] at hfl
   generalize hm : (catK zss k).length = m at hfl
   have hm' := hyd1 hm
   generalize hy : zss[k].length = y at hck hfl
   have hy' := hyd1 hy
   have hm0 : (0 : Int) ≤ ((m + y : Nat) : Int) := by omega
   clear hc hve hm hy helc
   go_wp2
   go_round
   case rel => exact ⟨k + 1, by omega, by go_num, by rw [hfs.out, List.length_append, hm'.out, hy'.out]; go_num⟩
   case measure => simp [intOf]; omega
  ·obtain rfl : k = vs.length := by omega
   have hall : catK zss vs.length = F0 := by rw [hF0'.out]; exact catK_all _ _ (by have := hl'.out; omega)
   have hall' := hyd1 hall
   rw [hall]
   clear hall
   generalize hm : F0.length = m at hn
   have hm' := hyd1 hm
   clear hm
   go_wp2_with (first | (go_at_call 72; refine (pf_Grow_nil m hn _).mono ?_; rintro e w1 ⟨v1, rfl, hb1, ho1⟩))
   go_loopw [27, 6] (fun i s wr => ∃ k : Nat, k ≤ vs.length ∧ i = .int .i64 k ∧ Below w.heap.size w wr ∧ Hid (wr.ownsRow w.heap.size 3 1 s (catK zss k).length ((catK zss k).map vint))) (fun i _ _ => vs.length - (intOf i).toNat)
   case atStart => exact ⟨0, Nat.zero_le _, rfl, hb1, ho1⟩
   case round =>
    obtain ⟨k, hk, rfl, hbw, hown⟩ := hrel
    by_cases hlt : k < vs.length
    ·obtain ⟨b, off, rfl, hb, hc⟩ := hr'.out (by omega)
     have hck : wr.cell? ⟨b, off + k, none⟩ = some vs[k] := (hbw.cell (p := ⟨b, off + k, none⟩) hb).trans (hc k hlt)
     have hlz : k < zss.length := by have := hl'.out; omega
     have hiv := Lib.hid ((hi'.out k hlz hlt).below hbw)
     have hfs := Lib.hid (flat_take_succ zss k hlz)
     have hfl := hFz'.out (k + 1)
     rw [hfs.out, List.length_append, hm'.out] at hfl
     have hbz := hbw.size
     generalize vs[k] = vk at hck hiv
     clear hc
     go_wp2_with (first | (at_builtin; go_must (refine wpList_appI rfl _ _ 36 rfl w.heap.size 3 elemInt _ (catK zss k) rfl hown.out _ zss[k] rfl hiv.out (by omega) (by omega) ?_)))
     intro v2 w2 h1 h2 h3 _
     have h1' := hyd1 h1
     clear h1 h3
     go_wp2
     go_roundw
     case rel => exact ⟨k + 1, by omega, by go_num, hbw.trans h2, by have h := h1'.out; rw [hfs.out, List.length_append, List.map_append]; exact h⟩
     case measure => simp [intOf]; omega
    ·obtain rfl : k = vs.length := by omega
     go_wp2
     go_ret
     have h := hown.out
     rw [hall'.out] at h
     exact ⟨_, rfl, hbw, h⟩
theorem pf_Equal (v v' : Value) (xs ys : List Int) (w : World) (hx : Ints w v xs) (hy : Ints w v' ys) :
  Calls Tryz.prog 57 #[v, v'] w fun e w' => e = .returned (.bool (xs == ys)) ∧ ∃ n, w' = w.drewN n := by
 obtain ⟨A, c, rfl, hlc, hcm, _, hr⟩ := hx
 obtain ⟨A', c', rfl, hlc', hcm', _, hr'⟩ := hy
 unfold maxLen at hcm hcm'
 have hr1 := Lib.hid hr
 have hr2 := Lib.hid hr'
 clear hr hr'
 by_cases hl : xs.length = ys.length
 ·have hl' := hyd1 hl
  have hl1 : ((xs.length : Int) != (ys.length : Int)) = false := by simp [hl]
  clear hl
  go_enter Tryz.func57, Tryz.ntmps57
  go_wp2
  go_loopw [13] (fun i wr => ∃ k : Nat, k ≤ xs.length ∧ i = .int .i64 k ∧ Hid (∃ n, wr = w.drewN n) ∧ Hid (xs.take k = ys.take k)) (fun i _ => xs.length - (intOf i).toNat)
  case atStart => exact ⟨0, Nat.zero_le _, rfl, ⟨0, rfl⟩, rfl⟩
  case round =>
   obtain ⟨k, hk, rfl, hdr, hpre⟩ := hrel
   obtain ⟨nd, hnd⟩ := hdr.out
   subst hnd
   by_cases hlt : k < xs.length
   ·have hlt' : k < ys.length := by have := hl'.out; omega
    obtain ⟨b1, off1, rfl, hb1, hc1⟩ := hr1.out (by omega)
    obtain ⟨b2, off2, rfl, hb2, hc2⟩ := hr2.out (by omega)
    have hk1 : w.cell? ⟨b1, off1 + k, none⟩ = some (.int .i64 xs[k]) := hc1 k hlt
    have hk2 : w.cell? ⟨b2, off2 + k, none⟩ = some (.int .i64 ys[k]) := hc2 k hlt'
    have ht1 : xs.take (k + 1) = xs.take k ++ [xs[k]] := by rw [List.take_add_one, List.getElem?_eq_getElem hlt]; rfl
    have ht2 : ys.take (k + 1) = ys.take k ++ [ys[k]] := by rw [List.take_add_one, List.getElem?_eq_getElem hlt']; rfl
    have ⟨ht1', ht2'⟩ := hyd2 ht1 ht2
    generalize hxk : xs[k] = x at hk1 ht1'
    generalize hyk : ys[k] = y at hk2 ht2'
    have i1 : (0 : Int) ≤ (k : Int) := by omega
    have i2 : (k : Int) < (xs.length : Int) := by omega
    have i3 : (k : Int) < (ys.length : Int) := by omega
    clear hc1 hc2 ht1 ht2 hdr
    by_cases hxy : x = y
    ·subst hxy
     have hz : (x != x) = false := by simp
     clear hxk hyk
     go_wp2
     go_quiet (fail)
     go_wp2
     go_roundw
     case rel => exact ⟨k + 1, by omega, by go_num, ⟨_, rfl⟩, by rw [ht1'.out, ht2'.out, hpre.out]; exact rfl⟩
     case measure => simp [intOf]; omega
    ·have hz : (x != y) = true := by simpa using hxy
     have hne : (xs == ys) = false := by
      rw [beq_eq_false_iff_ne]
      intro he
      subst he
      exact hxy (hxk.symm.trans hyk)
     have hne' := hyd1 hne
     clear hxk hyk hne hxy
     go_wp2
     go_quiet (fail)
     go_wp2
     go_ret
     exact ⟨ret_bool (by rw [hne'.out]), ⟨_, World.drewN_drewN _ _ _⟩⟩
   ·have he : (xs == ys) = true := by
     rw [beq_iff_eq]
     have h := hpre.out
     rwa [List.take_of_length_le (by omega), List.take_of_length_le (by have := hl'.out; omega)] at h
    have he' := hyd1 he
    clear he
    go_wp2
    go_ret
    exact ⟨ret_bool (by rw [he'.out]), ⟨nd, rfl⟩⟩
 ·have hl1 : ((xs.length : Int) != (ys.length : Int)) = true := by simp; omega
  have he : (xs == ys) = false := by
   rw [beq_eq_false_iff_ne]
   intro h
   exact hl (by rw [h])
  rw [he]
  clear he hl
  go_enter Tryz.func57, Tryz.ntmps57
  go_wp2
  go_ret
  exact ⟨rfl, ⟨0, rfl⟩⟩
end Go.Proofs.YtphdalgaemefoaaGreat
namespace Go.Proofs.YtphdalgaemefoaaGreat
set_option maxRecDepth 100000
set_option maxHeartbeats 1000000
open Go.RowKit
set_option linter.unusedVariables false
set_option linter.unusedSimpArgs false
theorem tmod_facts (p n : Int) (hn : 0 < n) : -n < p.tmod n ∧ p.tmod n < n ∧ (p.tmod n < 0 → p.tmod n + n = p % n) ∧ (0 ≤ p.tmod n → p.tmod n = p % n) := by
 have h1 := Int.tmod_lt_of_pos p hn
 have h2 : -n < p.tmod n := by
  have := Int.tmod_lt_of_pos (-p) hn
  rw [Int.neg_tmod] at this; omega
 have h3 := Int.mul_tdiv_add_tmod p n
 refine ⟨h2, h1, fun h => ?_, fun h => ?_⟩
 ·have e : p = (p.tmod n + n) + n * (p.tdiv n - 1) := by rw [Int.mul_sub]; omega
  conv => rhs; rw [e, Int.add_mul_emod_self_left]
  rw [Int.emod_eq_of_lt (by omega) (by omega)]
 ·have e : p = p.tmod n + n * p.tdiv n := by omega
  conv => rhs; rw [e, Int.add_mul_emod_self_left]
  rw [Int.emod_eq_of_lt (by omega) (by omega)]
def Mid (p : Int) : Prop := -1000000000000000 ≤ p ∧ p ≤ 1000000000000000
theorem pf_ros_around (p n : Int) (w : World) (hn : 0 < n) (hn2 : n ≤ 1000000000) (hp : Mid p) :
  Calls Tryz.prog 34 #[.int .i64 p, .int .i64 n] w fun e w' => e = .returned (.int .i64 (p % n)) ∧ w = w' := by
 obtain ⟨hp1, hp2⟩ := hp
 obtain ⟨f1, f2, f3, f4⟩ := tmod_facts p n hn
 by_cases h0 : 0 ≤ p
 ·have h5 := Int.emod_lt_of_pos p hn
  have h6 := Int.emod_nonneg p (show n ≠ 0 by omega)
  clear f1 f2 f3 f4
  go_enter Tryz.func34, Tryz.ntmps34
  go_wp2
  go_ret
  exact ⟨rfl, rfl⟩
 ·by_cases h1 : p.tmod n < 0
  ·have h2 := Lib.hid (f3 h1)
   clear f3 f4
   go_enter Tryz.func34, Tryz.ntmps34
   go_wp2
   go_ret
   exact ⟨ret_int h2.out, rfl⟩
  ·have h2 := Lib.hid (f4 (by omega))
   clear f3 f4
   go_enter Tryz.func34, Tryz.ntmps34
   go_wp2
   go_ret
   exact ⟨ret_int h2.out, rfl⟩
theorem pf_pat_modulo (p n : Int) (w : World) (hn : 0 < n) (hn2 : n ≤ 1000000000) (hp : Mid p) :
  Calls Tryz.prog 55 #[.int .i64 p, .int .i64 n] w fun e w' => e = .returned (.int .i64 (p % n)) ∧ w = w' := by
 obtain ⟨hp1, hp2⟩ := hp
 obtain ⟨f1, f2, f3, f4⟩ := tmod_facts p n hn
 by_cases h0 : 0 ≤ p
 ·have h5 := Int.emod_lt_of_pos p hn
  have h6 := Int.emod_nonneg p (show n ≠ 0 by omega)
  clear f1 f2 f3 f4
  go_enter Tryz.func55, Tryz.ntmps55
  go_wp2
  go_ret
  exact ⟨rfl, rfl⟩
 ·by_cases h1 : p.tmod n < 0
  ·have h2 := Lib.hid (f3 h1)
   clear f3 f4
   go_enter Tryz.func55, Tryz.ntmps55
   go_wp2
   go_ret
   exact ⟨ret_int h2.out, rfl⟩
  ·have h2 := Lib.hid (f4 (by omega))
   clear f3 f4
   go_enter Tryz.func55, Tryz.ntmps55
   go_wp2
   go_ret
   exact ⟨ret_int h2.out, rfl⟩
end Go.Proofs.YtphdalgaemefoaaGreat
