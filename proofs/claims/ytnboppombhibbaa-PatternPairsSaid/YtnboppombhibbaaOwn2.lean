/- make and copy on rows of numbers. -/
import Derived.Test.YtnboppombhibbaaListAid
import Derived.OwnWalk
import Derived.Laws.CopyOwn
namespace Go.Proofs.Ytnboppombhibbaa
open Go.RowKit
set_option linter.unusedVariables false
set_option linter.unusedSimpArgs false
/-- n zeros. -/
def zerosI (n : Nat) : List Int := List.replicate n 0
theorem zerosI_length (n : Nat) : (zerosI n).length = n := by simp [zerosI]
theorem wpList_makeI {P : Program} (w : World) {ops : Array Oper} {rest : List Oper} {o : Oper} {a : Act} {Q : Exit → Act → World → Prop}
    (hg : o.guard = none) (l c : Operand) (t : TypeId) (hop : o.op = Op.makeSlice t l c) (base : Nat) (e : TypeId) (hE : Elem1 P t e (.int .i64 0) 8)
    (n : Nat) (hl : a.eval l = .int .i64 (n : Int)) (hc : a.eval c = .int .i64 (n : Int)) (hn : n ≤ 1000000000) (b4 : base ≤ w.heap.size)
    (hK : ∀ w', w'.ownsRow base e 1 (.slice (some ⟨w.heap.size, 0, none⟩) n n) n ((zerosI n).map vint) → Below w.heap.size w w' → w.heap.size < w'.heap.size → wpList P ops Q rest (a.put o.dst (.slice (some ⟨w.heap.size, 0, none⟩) n n)) w') :
    wpList P ops Q (o :: rest) a w := by
  obtain ⟨ht, hi, hzs⟩ := hE
  obtain ⟨i, hi0, hz, hsz, hby⟩ := info_parts hi
  refine wpList_make_full w hg l c t hop base e i (.int .i64 0) 1 ht hi0 hz hsz .i64 .i64 _ _ n hl hc rfl rfl (by rw [hby]; omega) (by unfold maxLen; omega) b4 ?_
  intro w' h1 h2
  refine hK w' ?_ ((Below.refl _ _).grown h2 (Nat.le_refl _) (by simp)) ((h1.lt w.heap.size rfl).2)
  rcases h1.2 with ⟨h, _⟩ | ⟨g, cap, cur, hv, hb, hh, hnc, hcm, hs, htake⟩
  · simp at h
  · refine ⟨by simp [zerosI], .inr ⟨g, cap, cur, hv, hb, hh, hnc, hcm, hs, ?_⟩⟩
    rw [htake]
    apply List.ext_getElem?
    intro k
    simp [zerosI, madeCells, Value.cells, List.getElem?_replicate]
    by_cases hk : k < n
    · simp [hk, Nat.mod_one]
    · simp [hk]
theorem wpList_copyI {P : Program} {w : World} {ops : Array Oper} {rest : List Oper} {o : Oper} {a : Act} {Q : Exit → Act → World → Prop} (hgd : o.guard = none) (d s : Operand) (t : TypeId)
    (ho : o.op = .call { callee := .builtin .copy, args := #[d, s], argTypes := #[t, t] }) (base : Nat) (e : TypeId) (hE : Elem1 P t e (.int .i64 0) 8)
    (dv sv : Value) (n : Nat) (L ys : List Int) (hd : a.eval d = dv) (hs : a.eval s = sv) (hown : w.ownsRow base e 1 dv n (L.map vint)) (hsrc : Ints w sv ys) (hlen : ys.length = n) (hb : base ≤ w.heap.size)
    (h : ∀ w', w'.ownsRow base e 1 dv n (ys.map vint) → Below base w w' → wpList P ops Q rest (a.put o.dst (goInt n)) w') :
    wpList P ops Q (o :: rest) a w := by
  obtain ⟨ht, hi, hzs⟩ := hE
  obtain ⟨i, hi0, hz, hsz, hby⟩ := info_parts hi
  obtain ⟨A, c, rfl, h1, h2, hN, h3⟩ := hsrc
  have hszm : (P.info? e).map (·.size) = some 1 := by rw [hi0]; simp [hsz]
  subst hlen
  by_cases h0 : 0 < ys.length
  · obtain ⟨b, off, rfl, hblt, hcell⟩ := h3 h0
    rcases hown.2 with ⟨rfl, h0'⟩ | ⟨g, cap, cur, rfl, hbg, hh, hnc, hcm, hs', htake⟩
    · omega
    · refine wpList_copy_splice hgd d s t t ho e ht hszm (some ⟨g, 0, none⟩) (some ⟨b, off, none⟩) ys.length cap ys.length c hd hs g 0 cur.toList e (by simpa using hh) (ys.map vint) (by simp)
        (fun _ => ⟨rfl, _, rfl, fun j v hv => ?_⟩) (by simp; omega) (by simp [Value.oneCell']) base w (Below.refl _ _) hbg ?_
      · have hj : j < ys.length := by have := (List.getElem?_eq_some_iff.1 hv).1; simpa using this
        have ha : (⟨b, off, none⟩ : Addr).add j = ⟨b, off + j, none⟩ := by unfold Addr.add; split <;> simp_all
        rw [ha, hcell j hj]
        simpa [hj] using hv
      · intro w' hH hB
        have hH' := hH.out
        rw [List.length_map]
        refine h w' ⟨by simp, .inr ⟨g, cap, _, rfl, hbg, hH', hnc, hcm, ?_, ?_⟩⟩ hB
        · simp [splice]; omega
        · simp [splice]
  · have hy : ys = [] := List.eq_nil_of_length_eq_zero (by omega)
    subst hy
    have hdv : ∃ A n c, dv = .slice A n c ∧ n = 0 := by
      rcases hown.2 with ⟨rfl, h0'⟩ | ⟨g, cap, cur, rfl, _⟩
      · exact ⟨_, _, _, rfl, rfl⟩
      · exact ⟨_, _, _, rfl, rfl⟩
    obtain ⟨A', n', c', rfl, rfl⟩ := hdv
    refine wpList_copy_nothing hgd d s t t ho e ht hszm A' A 0 c' _ c hd hs (by simp) ?_
    have hL : L = [] := List.eq_nil_of_length_eq_zero (by simpa using hown.1)
    subst hL
    exact h w hown (Below.refl _ _)
end Go.Proofs.Ytnboppombhibbaa
