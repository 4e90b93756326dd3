/- The reference's joined: ranges and one more. -/
import Derived.Test.YtphdalgaemefoaaGreatRdStartR
import Derived.StillTailTactics
namespace Go.Proofs.YtphdalgaemefoaaGreat
set_option maxRecDepth 100000
open Go.RowKit
set_option linter.unusedVariables false
set_option linter.unusedSimpArgs false
theorem slice_formR {w : World} {base e size n : Nat} {v : Value} {xs : List Value} (h : w.ownsRow base e size v n xs) : ∃ A c, v = .slice A n c := by
 rcases h.2 with ⟨rfl, rfl⟩ | ⟨g, cap, cur, rfl, _⟩
 ·exact ⟨none, 0, rfl⟩
 ·exact ⟨_, cap, rfl⟩
def SpB (L : List Spn) : Prop := ∀ s ∈ L, (-2000000000000 ≤ s.1 ∧ s.1 ≤ 2000000000000) ∧ (-2000000000000 ≤ s.2 ∧ s.2 ≤ 2000000000000)
theorem spn_flat (L : List Spn) (x : Spn) : (L ++ [x]).flatMap spnEnc = L.flatMap spnEnc ++ [.int .i64 x.1, .int .i64 x.2] := by rw [List.flatMap_append]; simp [spnEnc]
theorem wpList_appS {P : Program} (w : World) {ops : Array Oper} {rest : List Oper} {o : Oper} {a : Act} {Q : Exit → Act → World → Prop} (hgd : o.guard = none) (s x : Operand) (t : TypeId)
  (ho : o.op = .call { callee := .builtin .append, args := #[s, x], argTypes := #[t, t] })
  (base : Nat) (e : TypeId) (ht : P.underlying t = some (.slice e)) (hinfo : (P.info? e).map (fun i => (i.zero, i.size, i.bytes)) = some (some (.agg #[.int .i64 0, .int .i64 0]), 2, 16))
  (v : Value) (L : List Spn) (hs : a.eval s = v) (hown : w.ownsRow base e 2 v L.length (L.flatMap spnEnc))
  (B : Nat) (y : Spn) (hx : a.eval x = .slice (some ⟨B, 0, none⟩) 1 1) (hc0 : w.cell? ⟨B, 0, none⟩ = some (.int .i64 y.1)) (hc1 : w.cell? ⟨B, 1, none⟩ = some (.int .i64 y.2)) (hlen : L.length ≤ 1000000) (hbase : base ≤ w.heap.size)
  (h : ∀ v' w', w'.ownsRow base e 2 v' (L ++ [y]).length ((L ++ [y]).flatMap spnEnc) → (∀ n, n ≤ base → Below n w w') → (∀ k, v'.ownBlock = some k → v.ownBlock = some k ∨ w.heap.size ≤ k) → wpList P ops Q rest (a.put o.dst v') w') : wpList P ops Q (o :: rest) a w := by
 obtain ⟨mi, hmi, hz0, hz1, hzb⟩ := info_parts hinfo
 refine wpList_append_ownB w hgd s x t ho base e mi _ 2 16 ht hmi hz0 hz1 hzb rfl (by decide) v L.length (L.flatMap spnEnc) hs hown ⟨B, 0, none⟩ 1 1 [.int .i64 y.1, .int .i64 y.2] hx rfl (fun j u hu => ?_) (fun u hu => ?_) (by unfold maxLen; omega) (by omega) hbase ?_
 ·have hj : j < 2 := (List.getElem?_eq_some_iff.1 hu).1
  have hadd : (⟨B, 0, none⟩ : Addr).add j = ⟨B, j, none⟩ := by unfold Addr.add; split <;> simp_all
  rw [hadd]
  match j, hj with
  | 0, _ => rw [hc0]; simpa using hu
  | 1, _ => rw [hc1]; simpa using hu
 ·simp at hu; rcases hu with rfl | rfl <;> rfl
 ·intro v' w' h1 h2 h3
  refine h v' w' (by rw [spn_flat, show (L ++ [y]).length = L.length + 1 by simp]; exact h1) (fun n hn => ?_) h3
  exact Below.grown (Below.refl n w) h2 (by omega) (fun k e => by have := (hown.lt k e).1; omega)
theorem joinGo_drop {l : List Spn} {i : Nat} (h : i < l.length) (x : Spn) (done : Bool) (out : List Spn) : joinGo (l.drop i) x done out = if l[i].2 + 1 < x.1 then joinGo (l.drop (i + 1)) x done (out ++ [l[i]]) else if x.2 + 1 < l[i].1 then joinGo (l.drop (i + 1)) x true (if done then out ++ [l[i]] else out ++ [x] ++ [l[i]]) else joinGo (l.drop (i + 1)) (min x.1 l[i].1, max x.2 l[i].2) done out := by
 rw [List.drop_eq_getElem_cons h]; rfl
end Go.Proofs.YtphdalgaemefoaaGreat
