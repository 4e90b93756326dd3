/- The reference's Simplest: the walk. -/
import Derived.Test.YtphdalgaemefoaaGreatRdFitsW
import Derived.Test.YtphdalgaemefoaaGreatMonoR
import Derived.ArgAppend
namespace Go.Proofs.YtphdalgaemefoaaGreat
set_option maxRecDepth 100000
open Go.RowKit
set_option linter.unusedVariables false
set_option linter.unusedSimpArgs false
theorem pset6 {W : World} {X : Nat} {a b c d e f : Value} {t : TypeId} (h : W.heap[X]? = some (Obj.cells #[a, b, c, d, e, f] t)) (u0 u1 u2 u3 u4 u5 : Value) : ((((((W.setCell ⟨X, 0, none⟩ u0).setCell ⟨X, 1, none⟩ u1).setCell ⟨X, 2, none⟩ u2).setCell ⟨X, 3, none⟩ u3).setCell ⟨X, 4, none⟩ u4).setCell ⟨X, 5, none⟩ u5).heap[X]? = some (.cells #[u0, u1, u2, u3, u4, u5] t) := by
 simp only [World.setCell, Array.getElem?_modify, h]
 simp
theorem pset6b {n : Nat} {w W : World} {X : Nat} (h : Below n w W) (hX : n ≤ X) (u0 u1 u2 u3 u4 u5 : Value) : Below n w ((((((W.setCell ⟨X, 0, none⟩ u0).setCell ⟨X, 1, none⟩ u1).setCell ⟨X, 2, none⟩ u2).setCell ⟨X, 3, none⟩ u3).setCell ⟨X, 4, none⟩ u4).setCell ⟨X, 5, none⟩ u5) :=
 (((((Below.setCell h (p := ⟨X, 0, none⟩) hX _).setCell (p := ⟨X, 1, none⟩) hX _).setCell (p := ⟨X, 2, none⟩) hX _).setCell (p := ⟨X, 3, none⟩) hX _).setCell (p := ⟨X, 4, none⟩) hX _).setCell (p := ⟨X, 5, none⟩) hX _
def IntsN (n : Nat) (w : World) (v : Value) (L : List Int) : Prop := Ints w v L ∧ ∀ g, v.ownBlock = some g → n < g
theorem IntsN.later {n : Nat} {w w' : World} {v : Value} {L : List Int} (h : IntsN n w v L) (hb : Below w.heap.size w w') : IntsN n w' v L := ⟨h.1.below hb, h.2⟩
theorem IntsN.cells {n : Nat} {w w' : World} {v : Value} {L : List Int} (h : IntsN n w v L) (hs : w'.heap.size = w.heap.size) (hk : ∀ b, n < b → w'.heap[b]? = w.heap[b]?) : IntsN n w' v L := by
 obtain ⟨⟨A, c, rfl, h1, h2, h3, h4⟩, h5⟩ := h
 refine ⟨⟨A, c, rfl, h1, h2, h3, fun h0 => ?_⟩, h5⟩
 obtain ⟨b, off, rfl, hb, hc⟩ := h4 h0
 exact ⟨b, off, rfl, by omega, fun j hj => (World.cell?_of_block (a := ⟨b, off + j, none⟩) (hk b (h5 b rfl))).trans (hc j hj)⟩
theorem set6_kept {n : Nat} (W : World) (u0 u1 u2 u3 u4 u5 : Value) {b : Nat} (hb : n < b) : ((((((W.setCell ⟨n, 0, none⟩ u0).setCell ⟨n, 1, none⟩ u1).setCell ⟨n, 2, none⟩ u2).setCell ⟨n, 3, none⟩ u3).setCell ⟨n, 4, none⟩ u4).setCell ⟨n, 5, none⟩ u5).heap[b]? = W.heap[b]? := by
 have h : ¬ n = b := by omega
 simp only [World.setCell, Array.getElem?_modify, if_neg h]
theorem set6_size {n : Nat} (W : World) (u0 u1 u2 u3 u4 u5 : Value) : ((((((W.setCell ⟨n, 0, none⟩ u0).setCell ⟨n, 1, none⟩ u1).setCell ⟨n, 2, none⟩ u2).setCell ⟨n, 3, none⟩ u3).setCell ⟨n, 4, none⟩ u4).setCell ⟨n, 5, none⟩ u5).heap.size = W.heap.size := by
 simp [World.setCell]
def MPred.intsN (n : Nat) (L : List Int) : MPred := ⟨fun v w => IntsN n w v L, fun _ _ _ h hp => IntsN.later hp h⟩
def MPred.emp : MPred := ⟨fun v _ => ∃ B, v = .slice (some ⟨B, 0, none⟩) 0 0, fun _ _ _ _ h => h⟩
def ProgN (n : Nat) (w : World) (v : Value) (p : Prog) : Prop := ∃ v0 v1 v5, v = .agg #[v0, v1, .int .i64 p.start, .int .i64 p.throw, .int .i64 p.adv, v5] ∧ IntsN n w v0 p.ros ∧ IntsN n w v1 p.rub ∧ IntsN n w v5 p.shifts
def MPred.progN (n : Nat) (p : Prog) : MPred := ⟨fun v w => ProgN n w v p, fun _ _ _ h ⟨v0, v1, v5, e, a, b, c⟩ => ⟨v0, v1, v5, e, a.later h, b.later h, c.later h⟩⟩
theorem wpList_appE {P : Program} (w : World) {ops : Array Oper} {rest : List Oper} {o : Oper} {a : Act} {Q : Exit → Act → World → Prop} (hgd : o.guard = none) (s x : Operand) (t : TypeId)
  (ho : o.op = .call { callee := .builtin .append, args := #[s, x], argTypes := #[t, t] }) (e : TypeId) (hE : Elem1 P t e (.int .i64 0) 8)
  (B : Addr) (hs : a.eval s = .slice (some B) 0 0) (sv : Value) (ys : List Int) (hx : a.eval x = sv) (hsrc : Ints w sv ys) (h0 : 0 < ys.length) (hl : ys.length ≤ 1000000000)
  (hK : ∀ v' w', Below w.heap.size w w' → IntsN (w.heap.size - 1) w' v' ys → wpList P ops Q rest (a.put o.dst v') w') : wpList P ops Q (o :: rest) a w := by
 have hsrc0 := hsrc
 obtain ⟨A, c, rfl, hlc, hcm, hN, hc⟩ := hsrc
 obtain ⟨b, off, rfl, hb, hcl⟩ := hc h0
 obtain ⟨ht, hi, hzs⟩ := hE
 obtain ⟨i, hi0, hz, hsz, hby⟩ := info_parts hi
 refine wpList_append_grows w hgd s x t ho e i _ 1 8 ht hi0 hz hsz hby hzs (by decide) (some B) 0 0 [] hs (by simp) rfl (by simp) ⟨b, off, none⟩ ys.length c (ys.map vint) hx (by simp) hsrc0.news (by simp [Value.oneCell']) (by omega) (by unfold maxLen; omega) (by omega) fun v' w' h1 h2 => ?_
 refine hK v' w' ((Below.refl _ _).grown h2 (Nat.le_refl _) fun k hk => by cases hk) ⟨Arr.of_own (by simpa using h1), fun g hg => ?_⟩
 have h := (h1.lt g hg).1
 omega
end Go.Proofs.YtphdalgaemefoaaGreat
