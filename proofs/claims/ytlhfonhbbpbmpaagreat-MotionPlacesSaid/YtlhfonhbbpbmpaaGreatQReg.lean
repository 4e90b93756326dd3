/- Regions that draw their order: first operations that only read (quiet ones, over a class of worlds), then a forced tail. Inside a wide fence and outside. A list in a box, appended to by the body of a range over a function. -/
import Derived.Test.YtlhfonhbbpbmpaaGreatRf
import Derived.StillTail
namespace Go.Proofs.YtlhfonhbbpbmpaaGreat
set_option maxRecDepth 100000
open Go.RowKit Go.Shelf
set_option linter.unusedVariables false
set_option linter.unusedSimpArgs false
section
variable {P : Program} {ops : Array Oper} {C : World → Prop} {md : Region.Mode} {n m : Nat} {F : Fence}

theorem qD6 {Q Q' : Act → Prop} (h : ∀ a, Q a → Q' a) : ∀ {l : List Oper} {a : Act}, wpQuiet P ops C Q l a → wpQuiet P ops C Q' l a
 | [], a, hq => h a hq
 | o :: l, a, hq => by
  unfold wpQuiet at hq ⊢
  split
  ·rename_i hw
   rw [if_pos hw] at hq
   exact Oper.quiet_mono (fun a' h' => qD6 h h') hq
  ·rename_i hw
   rw [if_neg hw] at hq
   exact qD6 h hq
theorem qKS (B : Nat) (w : World) (hB : B ≤ w.heap.size) : ∃ (ι : Type) (fam : ι → World), Nonempty ι ∧ (∀ n, Below B w (fam n)) ∧ (∀ n w', Below (fam n).heap.size (fam n) w' → ∃ m, w' = fam m) ∧ (∃ n, ({ w with drawn := w.drawn + 1 } : World) = fam n) :=
 ⟨{ W : World // Below B w W }, Subtype.val, ⟨⟨w, Below.refl _ _⟩⟩, fun n => n.2, fun n w' h => ⟨⟨w', n.2.trans (h.mono (Nat.le_trans hB n.2.size))⟩, rfl⟩, ⟨⟨_, (Below.refl B w).drew⟩, rfl⟩⟩
theorem qDn {ι : Type} {fam : ι → World} (h2 : ∀ n w', Below (fam n).heap.size (fam n) w' → ∃ m, w' = fam m) {f : FuncId} {args : Array Value} {n : ι} {v : Value}
  (h : Calls P f args (fam n) fun e w' => e = .returned v ∧ Below (fam n).heap.size (fam n) w') : Calls P f args (fam n) fun e w' => e = .returned v ∧ ∃ m, w' = fam m :=
 h.mono fun _ _ ⟨he, hb⟩ => ⟨he, h2 _ _ hb⟩
theorem qIF {ι : Type} {fam : ι → World} {f : FuncId} {args : Array Value} {n : ι} {v : Value}
  (h : Calls P f args (fam n) fun e w' => e = .returned v ∧ fam n = w') : Calls P f args (fam n) fun e w' => e = .returned v ∧ ∃ m, w' = fam m :=
 h.mono fun _ _ ⟨he, hk⟩ => ⟨he, n, hk.symm⟩
theorem qBh {ι : Type} {fam : ι → World} {id : Nat} {Q : Exit → Act → World → Prop} {a : Act} {w : World} {os : List Oper} (h0 : ∃ n, ({ w with drawn := w.drawn + 1 } : World) = fam n) (hm : P.follows .mixedOrders = true) (hB : Region.lexB .any os.toArray = true)
  (h : wpQuiet P os.toArray (fun w' => ∃ n, w' = fam n) (fun a' => ∀ n, Q .normal a' (fam n)) os a) : (Code.region id os.toArray true).wp P Q a w :=
 wp_region_quiet (C := fun w' => ∃ n, w' = fam n) hm hB h0 (qD6 (fun a' h' w' hw' => by obtain ⟨n, rfl⟩ := hw'; exact h' n) (by simpa using h))
end
theorem qEH {P : Program} {f : FuncId} {args : Array Value} {W : World} {n : Nat} {v : Value} (h : Calls P f args (W.drewN n) fun e w' => e = .returned v ∧ W.drewN n = w') :
  Calls P f args (W.drewN n) fun e w'' => e = .returned v ∧ ∃ m, w'' = W.drewN m := h.mono fun _ _ ⟨he, hw⟩ => ⟨he, n, hw.symm⟩
theorem qAz (F : (Nat → Value) → Array Value) (t : Array Value) (h : t = F (fun i => t.getD i undef)) : ∃ u, t = F u := ⟨_, h⟩
def qBS (n : Nat) : Code → List Code
 | .region m o d => if m = n then [.region m o d] else []
 | .seq a b => match a with
  | .region m _ _ => if m = n then [.seq a b] else qBS n b
  | _ => qBS n a ++ qBS n b
 | .block _ c => qBS n c
 | .scope c => qBS n c
 | .loop c => qBS n c
 | .cond _ a b => qBS n a ++ qBS n b
 | _ => []
end Go.Proofs.YtlhfonhbbpbmpaaGreat

