/- Regions that draw their order: first operations that only read (quiet ones, over a class of worlds), then a forced tail. Inside a wide fence and outside. A .. -/
import Derived.Test.YtabfaobakmjiaaaGreatPk04
import Derived.StillTail
namespace Go.Proofs.YtabfaobakmjiaaaGreat
set_option maxRecDepth 100000
open Go.RowKit Go.Shelf
set_option linter.unusedVariables false
set_option linter.unusedSimpArgs false
section
variable {P : Program} {ops : Array Oper} {C : World → Prop} {md : Region.Mode} {n m : Nat} {F : Fence}

theorem qD9 {Q Q' : Act → Prop} (h : ∀ a, Q a → Q' a) : ∀ {l : List Oper} {a : Act}, wpQuiet P ops C Q l a → wpQuiet P ops C Q' l a
 | [], a, hq => h a hq
 | o :: l, a, hq => by
  unfold wpQuiet at hq ⊢
  split
  ·rename_i hw;rw [if_pos hw] at hq;exact Oper.quiet_mono (fun a' h' => qD9 h h') hq
  ·rename_i hw;rw [if_neg hw] at hq;exact qD9 h hq
theorem qKZ (B : Nat) (w : World) (hB : B ≤ w.heap.size) : ∃ (ι : Type) (fam : ι → World), Nonempty ι ∧ (∀ n, Below B w (fam n)) ∧ (∀ n w', Below (fam n).heap.size (fam n) w' → ∃ m, w' = fam m) ∧ (∃ n, ({ w with drawn := w.drawn + 1 } : World) = fam n) :=
 ⟨{ W : World // Below B w W }, Subtype.val, ⟨⟨w, Below.refl _ _⟩⟩, fun n => n.2, fun n w' h => ⟨⟨w', n.2.trans (h.mono (Nat.le_trans hB n.2.size))⟩, rfl⟩, ⟨⟨_, (Below.refl B w).drew⟩, rfl⟩⟩
theorem qDo {ι : Type} {fam : ι → World} (h2 : ∀ n w', Below (fam n).heap.size (fam n) w' → ∃ m, w' = fam m) {f : FuncId} {args : Array Value} {n : ι} {v : Value}
  (h : Calls P f args (fam n) fun e w' => e = .returned v ∧ Below (fam n).heap.size (fam n) w') : Calls P f args (fam n) fun e w' => e = .returned v ∧ ∃ m, w' = fam m :=
 h.mono fun _ _ ⟨he, hb⟩ => ⟨he, h2 _ _ hb⟩
theorem qIL {ι : Type} {fam : ι → World} {f : FuncId} {args : Array Value} {n : ι} {v : Value}
  (h : Calls P f args (fam n) fun e w' => e = .returned v ∧ fam n = w') : Calls P f args (fam n) fun e w' => e = .returned v ∧ ∃ m, w' = fam m :=
 h.mono fun _ _ ⟨he, hk⟩ => ⟨he, n, hk.symm⟩
theorem qBi {ι : Type} {fam : ι → World} {id : Nat} {Q : Exit → Act → World → Prop} {a : Act} {w : World} {os : List Oper} (h0 : ∃ n, ({ w with drawn := w.drawn + 1 } : World) = fam n) (hm : P.follows .mixedOrders = true) (hB : Region.lexB .any os.toArray = true)
  (h : wpQuiet P os.toArray (fun w' => ∃ n, w' = fam n) (fun a' => ∀ n, Q .normal a' (fam n)) os a) : (Code.region id os.toArray true).wp P Q a w :=
 wp_region_quiet (C := fun w' => ∃ n, w' = fam n) hm hB h0 (qD9 (fun a' h' w' hw' => by obtain ⟨n, rfl⟩ := hw'; exact h' n) (by simpa using h))
end
theorem qEJ {P : Program} {f : FuncId} {args : Array Value} {W : World} {n : Nat} {v : Value} (h : Calls P f args (W.drewN n) fun e w' => e = .returned v ∧ W.drewN n = w') :
  Calls P f args (W.drewN n) fun e w'' => e = .returned v ∧ ∃ m, w'' = W.drewN m := h.mono fun _ _ ⟨he, hw⟩ => ⟨he, n, hw.symm⟩
theorem qAq (F : (Nat → Value) → Array Value) (t : Array Value) (h : t = F (fun i => t.getD i undef)) : ∃ u, t = F u := ⟨_, h⟩
def qBQ (n : Nat) : Code → List Code
 | .region m o d => if m = n then [.region m o d] else []
 | .seq a b => match a with
  | .region m _ _ => if m = n then [.seq a b] else qBQ n b
  | _ => qBQ n a ++ qBQ n b
 | .block _ c => qBQ n c
 | .scope c => qBQ n c
 | .loop c => qBQ n c
 | .cond _ a b => qBQ n a ++ qBQ n b
 | _ => []
end Go.Proofs.YtabfaobakmjiaaaGreat
