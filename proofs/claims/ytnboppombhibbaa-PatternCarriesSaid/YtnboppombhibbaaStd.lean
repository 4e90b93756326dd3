/- Contracts of the functions of package slices at []int that the program uses. -/
import Derived.Test.YtnboppombhibbaaBase
namespace Go.Proofs.Ytnboppombhibbaa
open Go.RowKit

/-- The index of the first element that satisfies p, or -1. -/
def idx {α : Type} (p : α → Bool) (zs : List α) : Int := match zs.findIdx? p with | some k => k | none => -1
theorem idx_hit {α : Type} (p : α → Bool) (zs : List α) (k : Nat) (h : k < zs.length) (hp : p zs[k] = true) (hn : ∀ j (h : j < zs.length), j < k → p zs[j] = false) : (k : Int) = idx p zs := by
  have : zs.findIdx? p = some k := by
    rw [List.findIdx?_eq_some_iff_getElem]
    exact ⟨h, hp, fun j hj => by have := hn j (by omega) hj; simp [this]⟩
  unfold idx; rw [this]
theorem idx_miss {α : Type} (p : α → Bool) (zs : List α) (hn : ∀ j (h : j < zs.length), p zs[j] = false) : (-1 : Int) = idx p zs := by
  have : zs.findIdx? p = none := by
    rw [List.findIdx?_eq_none_iff]
    intro x hx
    obtain ⟨j, hj, rfl⟩ := List.mem_iff_getElem.1 hx
    exact hn j hj
  unfold idx; rw [this]
theorem idx_any {α : Type} (p : α → Bool) (zs : List α) : decide (0 ≤ idx p zs) = zs.any p := by
  unfold idx
  cases h : zs.findIdx? p with
  | none =>
    rw [List.findIdx?_eq_none_iff] at h
    have : zs.any p = false := by simp only [List.any_eq_false]; intro x hx; simp [h x hx]
    simp [this]
  | some k =>
    rw [List.findIdx?_eq_some_iff_getElem] at h
    obtain ⟨hk, hp, _⟩ := h
    have : zs.any p = true := List.any_eq_true.2 ⟨_, List.getElem_mem hk, hp⟩
    simp [this]

theorem pf_IndexFunc (p : Int → Bool) (g : FuncId) (cap : Array Value) (v : Value) (zs : List Int) (w : World) (hv : Ints w v zs)
   (hg : Plain Try.prog g)
   (hf : ∀ x, x ∈ zs → Calls Try.prog g (#[.int .i64 x] ++ cap) w (fun e w2 => e = .returned (.bool (p x)) ∧ w = w2)) :
    Calls Try.prog 93 #[v, .func (.func g) #[] cap] w fun e w' => e = .returned (.int .i64 (idx p zs)) ∧ w = w' := by
  obtain ⟨A, c, rfl, hlc, hcm, _, hr⟩ := hv
  unfold Plain at hg
  unfold maxLen at hcm
  go_enter Try.func93, Try.ntmps93
  go_wp2
  go_loop [8, 4] (fun i r => ∃ k : Nat, k ≤ zs.length ∧ i = .int .i64 k ∧ r = .int .i64 0 ∧ ∀ j (h : j < zs.length), j < k → p zs[j] = false) (fun i _ => zs.length - (intOf i).toNat)
  case atStart => exact ⟨0, Nat.zero_le _, rfl, rfl, fun j _ h => absurd h (by omega)⟩
  case round =>
    obtain ⟨k, hk, rfl, rfl, hp⟩ := hrel
    have hp' := Lib.hid hp
    clear hp
    by_cases hlt : k < zs.length
    · obtain ⟨b, off, rfl, hb, hc⟩ := hr (by omega)
      have hck := hc k hlt
      have hmem := List.getElem_mem hlt
      generalize hx : zs[k] = x at hck hmem
      have hx' := Lib.hid hx
      clear hc hr hx
      by_cases hpx : p x = true
      · go_wp2_with (first | (refine (hf x hmem).mono ?_; rintro e w' ⟨rfl, rfl⟩))
        go_ret
        exact ⟨ret_int (idx_hit p zs k hlt (by rw [hx'.out]; exact hpx) hp'.out), rfl⟩
      · have hpx' : p x = false := by simpa using hpx
        go_wp2_with (first | (refine (hf x hmem).mono ?_; rintro e w' ⟨rfl, rfl⟩))
        go_round
        case rel => exact ⟨k + 1, by omega, by go_num, rfl, fun j h hj => by
          by_cases hjk : j = k
          · subst hjk; rw [hx'.out]; exact hpx'
          · exact hp'.out j h (by omega)⟩
        case measure => simp [intOf]; omega
    · go_wp2
      go_ret
      exact ⟨ret_int (idx_miss p zs fun j h => hp'.out j h (by omega)), rfl⟩
theorem pf_ContainsFunc (p : Int → Bool) (g : FuncId) (cap : Array Value) (v : Value) (zs : List Int) (w : World) (hv : Ints w v zs)
   (hg : Plain Try.prog g)
   (hf : ∀ x, x ∈ zs → Calls Try.prog g (#[.int .i64 x] ++ cap) w (fun e w2 => e = .returned (.bool (p x)) ∧ w = w2)) :
    Calls Try.prog 63 #[v, .func (.func g) #[] cap] w fun e w' => e = .returned (.bool (zs.any p)) ∧ w = w' := by
  go_enter Try.func63, Try.ntmps63
  go_wp2_with (first | (go_at_call 93; refine (pf_IndexFunc p g cap _ zs _ hv hg hf).mono ?_; rintro e w' ⟨rfl, rfl⟩))
  go_ret
  exact ⟨ret_bool (idx_any p zs), rfl⟩
theorem elemInt : Elem1 Try.prog 22 3 (.int .i64 0) 8 := ⟨Try.underlying22, by kernel_rfl, rfl⟩
theorem pf_Clone (v : Value) (zs : List Int) (w : World) (hv : Ints w v zs) (hlen : zs.length ≤ 1000000) :
    Calls Try.prog 86 #[v] w fun e w' => ∃ v', e = .returned v' ∧ Below w.heap.size w w' ∧ w'.ownsRow w.heap.size 3 1 v' zs.length (zs.map vint) ∧ (v'.ownBlock = none → v = .slice none 0 0) := by
  by_cases hs : ∃ a n c, v = .slice (some a) n c
  · obtain ⟨a, n, c, rfl⟩ := hs
    have hnil := fun W => Lib.run_eql_slice_nil (P := Try.prog) W 22 3 (some a) n c 0 0 Try.underlying22
    go_enter Try.func86, Try.ntmps86
    go_wp2_with (first | (at_builtin; go_must (refine wpList_appI rfl _ _ 22 rfl w.heap.size 3 elemInt _ [] rfl (own_empty _ _ _ (Nat.le_refl _)) _ zs rfl ?_ ?_ ?_ ?_)))
    · exact hv.below ((Below.refl _ _).alloc (Nat.le_refl _) _)
    · simp; omega
    · simp
    · intro v' w' h1 h2 h3 h4
      go_wp2
      go_ret
      exact ⟨_, rfl, ((Below.refl _ _).alloc (Nat.le_refl _) _).trans h2, by simpa using h1, fun h => absurd (h4.1 h).1 (by simp [Value.ownBlock])⟩
  · obtain ⟨rfl, rfl⟩ := hv.nil_of fun a n c hh => hs ⟨a, n, c, hh⟩
    have hnil := fun W => Lib.run_eql_slice_nil (P := Try.prog) W 22 3 none 0 0 0 0 Try.underlying22
    go_enter Try.func86, Try.ntmps86
    go_wp2
    go_ret
    exact ⟨_, rfl, Below.refl _ _, World.ownsRow_nil _ _ _ _, by simp⟩
end Go.Proofs.Ytnboppombhibbaa
