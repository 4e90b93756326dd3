/- All ways in which spots can be traced, one by one: read.ways and its iterator. append of one struct onto a row of one's own, in a plain walk and inside a .. -/
import Derived.Test.YtabfaobakmjiaaaGreatPk49
import Derived.StillTailTactics
namespace Go.Proofs.YtabfaobakmjiaaaGreat
set_option maxRecDepth 100000
set_option maxHeartbeats 1000000
open Go.RowKit Go.Shelf
set_option linter.unusedVariables false
set_option linter.unusedSimpArgs false
attribute [local go_sem] Oper.semAt_some
theorem qDL {W W' : World} (h : Below W.heap.size W W') : W.grownBy W' none := ⟨h.os, h.tape, h.output, h.size, fun k hk _ => h.block k hk⟩
theorem OwnFrom.laterT {β : Type} {B : Nat} {I : β → World → Prop} (h : OwnFrom B I) {s : β} {W W' : World} (hs : I s W) (hb : Below W.heap.size W W') : I s W' := h s W W' none hs (qDL hb) (fun r e => by cases e)
def qKJ (x : Tra) : Array Value := #[traV x]
theorem qLx (path f q b : Nat) (hq : q < 4) (hb : b < 2) : wayK path (8 * f + 2 * q + b) = ⟨path, f, q, b == 1⟩ := by
 unfold wayK;have h1 : (8 * f + 2 * q + b) / 8 = f := by omega
 have h2 : (8 * f + 2 * q + b) / 2 % 4 = q := by omega
 have h3 : (8 * f + 2 * q + b) % 2 = b := by omega
 rw [h1, h2, h3]
def trT (t : TypeId) : Prop := t = 37 ∨ t = 26
structure KeepX (W W' : World) : Prop where
 size : W.heap.size ≤ W'.heap.size
 tag : ∀ (k : Nat) (cs : Array Value) (t : TypeId), W.heap[k]? = some (.cells cs t) → ¬ trT t → W'.heap[k]? = some (.cells cs t)
theorem KeepX.refl (W : World) : KeepX W W := ⟨Nat.le_refl _, fun _ _ _ h _ => h⟩
theorem KeepX.trans {A B C : World} (h : KeepX A B) (k : KeepX B C) : KeepX A C := ⟨Nat.le_trans h.size k.size, fun i cs t hi ht => k.tag i cs t (h.tag i cs t hi ht) ht⟩
theorem KeepX.fresh {W W' : World} (h : Below W.heap.size W W') : KeepX W W' := ⟨h.size, fun k cs t hk _ => (h.block k (gsl hk)).trans hk⟩
theorem KeepX.of_grown {W W' : World} {row : Option Nat} (hg : W.grownBy W' row) (ho : ∀ g, row = some g → ∀ (cs : Array Value) (t : TypeId), W.heap[g]? = some (.cells cs t) → trT t) : KeepX W W' :=
 ⟨hg.size, fun k cs t hk ht => (hg.block k (gsl hk) (fun e => ht (ho k e.symm cs t hk))).trans hk⟩
theorem KeepX.put {W : World} {l : Nat} {o : Obj} (o' : Obj) (hl : W.heap[l]? = some o) (ho : o.isCells = false) : KeepX W (W.putObj l o') :=
 KeepX.of_grown (grownBy_putObj' W l o') (fun g e cs t h => by cases e; rw [hl] at h; cases h; cases ho)
theorem KeepX.setCell {W : World} {g i : Nat} {cs : Array Value} {t : TypeId} (v : Value) (hg : W.heap[g]? = some (.cells cs t)) (ht : trT t) : KeepX W (W.setCell ⟨g, i, none⟩ v) :=
 ⟨by simp [World.setCell], fun k cs' t' hk ht' => by
  refine (Below.heap_setCell _ ⟨g, i, none⟩ _ k (fun e => ?_)).trans hk;have e : k = g := e;subst e;rw [hg] at hk
  cases hk
  exact ht' ht⟩
theorem qIz (path n Bn Bp : Nat) (w : World) (hn : n ≤ 1000) (kn : w.heap[Bn]? = some (.cells #[.int .i64 (n : Int)] 3)) (kp : w.heap[Bp]? = some (.cells #[.int .i64 (path : Int)] 3)) :
  SeqO Fence.wide 4 Tryz.prog 60 #[.pointer (some ⟨Bn, 0, none⟩), .pointer (some ⟨Bp, 0, none⟩)] qKJ (fun pre x _ => x = wayK path pre.length ∧ pre.length < 8 * n) KeepX (fun xs => xs = qAh path (8 * n)) (fun pre => pre <+: qAh path (8 * n)) (8 * n) w := by
 intro l J Jx W hW hJo hJxo hY hJ0;have knW := (hW.block _ (gsl kn)).trans kn;have kpW := (hW.block _ (gsl kp)).trans kp;have c0 := qBl knW;have tn : ¬ trT 3 := by unfold trT; decide
 have tb : ¬ trT 4 := by unfold trT; decide
 have ⟨kn', kp', hW', hJo', hJxo', hY', knW', kpW'⟩ := hyd8 kn kp hW hJo hJxo hY knW kpW;have ⟨tn', tb'⟩ := hyd2 tn tb;clear tb tn kpW knW hY hJxo hJo hW kp kn;refine callsIn_of_wp Tryz.func60 rfl trivial ?_ rfl;simp only [Tryz.ntmps60, List.size_toArray, List.length_cons, List.length_nil, Nat.reduceAdd, Nat.reduceSub, Array.replicate_succ, Array.replicate_zero, List.push_toArray, List.append_toArray, List.nil_append, List.cons_append];gi_wp2;clear c0;gi_loopw [9] (fun ix wr => ∃ f : Nat, f ≤ n ∧ ix = .int .i64 (f : Int) ∧ Hid (J (qAh path (8 * f)) wr ∧ KeepX W wr)) (fun ix _ => n - (intOf ix).toNat)
 case atStart => exact ⟨0, Nat.zero_le _, rfl, Lib.hid ⟨hJ0, KeepX.refl _⟩⟩
 case round =>
  obtain ⟨f, hf, rfl, hJs⟩ := hrel
  by_cases hlt : f < n
  ·obtain ⟨hJr, hKr⟩ := hJs.out;have jlt : (f : Int) < (n : Int) := by omega
   have ⟨hJs', hJr', hKr'⟩ := hyd3 hJs hJr hKr;clear hKr hJr hJs;gi_wp2;gi_loopw [12] (fun qx wv => ∃ q : Nat, q ≤ 4 ∧ qx = .int .i64 (q : Int) ∧ Hid (J (qAh path (8 * f + 2 * q)) wv ∧ KeepX W wv)) (fun qx _ => 4 - (intOf qx).toNat)
   case atStart => exact ⟨0, Nat.zero_le _, rfl, Lib.hid ⟨hJr'.out, hKr'.out⟩⟩
   case round =>
    obtain ⟨q, hq, rfl, hJs2⟩ := hrel
    by_cases hq4 : q < 4
    ·obtain ⟨hJr2, hKr2⟩ := hJs2.out;rename World => w3
     obtain ⟨Wb, hWb, hbb, kb⟩ := newb w3 (.cells #[.bool false, .bool true] 4);have hJb := OwnFrom.laterT (I := J) hJo'.out hJr2 hbb;have hKb := hKr2.trans (KeepX.fresh hbb);obtain ⟨Bb, hBb⟩ : ∃ Bb, w3.heap.size = Bb := ⟨_, rfl⟩;have jq : (q : Int) < 4 := by omega
     rw [hBb] at kb;have ⟨hJs2', hJr2', hKr2', hbb', kb', hJb', hKb'⟩ := hyd7 hJs2 hJr2 hKr2 hbb kb hJb hKb;clear hKb hJb kb hbb hKr2 hJr2 hJs2;gi_wp2;clear hWb hbb' hBb;gi_loopw [17] (fun bx wu => ∃ b : Nat, b ≤ 2 ∧ bx = .int .i64 (b : Int) ∧ Hid (J (qAh path (8 * f + 2 * q + b)) wu ∧ KeepX W wu ∧ wu.heap[Bb]? = some (.cells #[.bool false, .bool true] 4))) (fun bx _ => 2 - (intOf bx).toNat)
     case atStart => exact ⟨0, Nat.zero_le _, rfl, Lib.hid ⟨hJb'.out, hKb'.out, kb'.out⟩⟩
     case round =>
      obtain ⟨b, hb, rfl, hJs3⟩ := hrel
      by_cases hb2 : b < 2
      ·obtain ⟨hJr3, hKr3, kb3⟩ := hJs3.out;rename World => w4
       have cp := qBl (hKr3.tag _ _ _ kpW'.out tn'.out);obtain ⟨B, hB⟩ : ∃ B, (b == 1) = B := ⟨_, rfl⟩
       have cb : w4.cell? ⟨Bb, b, none⟩ = some (.bool B) := by
        obtain ⟨e0, e1⟩ := pc2 kb3
        rcases (show b = 0 ∨ b = 1 by omega) with rfl | rfl
        ·rw [e0, ← hB]; rfl
        ·rw [e1, ← hB]; rfl
       have hx := qLx path f q b hq4 hb2;rw [hB] at hx;have jb : (b : Int) < 2 := by omega
       have jb0 : (0 : Int) ≤ (b : Int) := by omega
       have hlen : 8 * f + 2 * q + b < 8 * n := by omega
       obtain ⟨fn, tmps, assign, body, hy, hR⟩ := hY'.out (qAh path (8 * f + 2 * q + b)) ⟨path, f, q, B⟩ w4 hJr3 ⟨by rw [qC1, hx], by rw [qC1]; exact hlen⟩ (by rw [qC1]; exact hlen);have hsn : qAh path (8 * f + 2 * q + b) ++ [(⟨path, f, q, B⟩ : Tra)] = qAh path (8 * f + 2 * q + (b + 1)) := by rw [show 8 * f + 2 * q + (b + 1) = 8 * f + 2 * q + b + 1 by omega, qEf, hx]
       have hpre : qAh path (8 * f + 2 * q + (b + 1)) <+: qAh path (8 * n) := qKy path (by omega);rw [hsn] at hR;dsimp only [qKJ, traV] at hy;have ⟨hJs3', hJr3', hKr3', kb3', hB', hx', hsn', hpre'⟩ := hyd8 hJs3 hJr3 hKr3 kb3 hB hx hsn hpre;clear hpre hsn hx hB kb3 hKr3 hJr3 hJs3;gi_wp2;refine hR.mono ?_;rintro e W3 ⟨hkf, (⟨rfl, hJ3, hk3⟩ | ⟨rfl, hJx3⟩)⟩
       ·have hKn := hKr3'.out.trans hk3;have kbn := hk3.tag _ _ _ kb3'.out tb'.out;have ⟨hkf', hJ3', hk3', hKn', kbn'⟩ := hyd5 hkf hJ3 hk3 hKn kbn;clear kbn hKn hk3 hJ3 hkf;gi_wp2;go_roundw
        case rel => exact ⟨b + 1, by omega, by go_num, Lib.hid ⟨hJ3'.out, hKn'.out, kbn'.out⟩⟩
        case measure => simp [intOf]; omega
       ·have ⟨hkf', hJx3'⟩ := hyd2 hkf hJx3;clear hJx3 hkf;gi_wp2;refine bodyPost_ret (results_none rfl _ _ _) rfl ?_;exact ⟨⟨_, rfl⟩, .inr ⟨_, hpre'.out, hJx3'.out⟩⟩
      ·obtain rfl : b = 2 := by omega
       obtain ⟨hJr3, hKr3, kb3⟩ := hJs3.out;have ⟨hJs3', hJr3', hKr3', kb3'⟩ := hyd4 hJs3 hJr3 hKr3 kb3;clear kb3 hKr3 hJr3 hJs3;gi_wp2;go_roundw
       case rel => exact ⟨q + 1, by omega, by go_num, Lib.hid ⟨by rw [show 8 * f + 2 * (q + 1) = 8 * f + 2 * q + 2 by omega]; exact hJr3'.out, hKr3'.out⟩⟩
       case measure => simp [intOf]; omega
    ·obtain rfl : q = 4 := by omega
     obtain ⟨hJr2, hKr2⟩ := hJs2.out;have ⟨hJs2', hJr2', hKr2'⟩ := hyd3 hJs2 hJr2 hKr2;clear hKr2 hJr2 hJs2;gi_wp2;go_roundw
     case rel => exact ⟨f + 1, by omega, by go_num, Lib.hid ⟨by rw [show 8 * (f + 1) = 8 * f + 2 * 4 by omega]; exact hJr2'.out, hKr2'.out⟩⟩
     case measure => simp [intOf]; omega
  ·obtain rfl : f = n := by omega
   obtain ⟨hJr, hKr⟩ := hJs.out;have ⟨hJs', hJr', hKr'⟩ := hyd3 hJs hJr hKr;clear hKr hJr hJs;gi_wp2;go_end0;exact ⟨⟨_, rfl⟩, .inl ⟨_, rfl, hJr'.out⟩⟩
end Go.Proofs.YtabfaobakmjiaaaGreat
namespace Go.Proofs.YtabfaobakmjiaaaGreat
set_option maxRecDepth 100000
open Go.RowKit Go.Shelf
set_option linter.unusedVariables false
set_option linter.unusedSimpArgs false
attribute [local go_sem] Oper.semAt_some
theorem qJS {α : Type} {enc : α → List Value} {k bytes : Nat} {z : Value} {P : Program} (w : World) {ops : Array Oper} {rest : List Oper} {o : Oper} {a : Act} {Q : Exit → Act → World → Prop} (hgd : o.guard = none) (s x : Operand) (t : TypeId)
  (hk : ∀ x, (enc x).length = k) (h1c : ∀ x, ∀ u ∈ enc x, u.oneCell' = true) (hk0 : 0 < k) (hzs : z.cells.size = k) (hb8 : bytes ≤ 100)
  (ho : o.op = .call { callee := .builtin .append, args := #[s, x], argTypes := #[t, t] })
  (base : Nat) (e : TypeId) (ht : P.underlying t = some (.slice e)) (hinfo : (P.info? e).map (fun i => (i.zero, i.size, i.bytes)) = some (some z, k, bytes))
  (v : Value) (L : List α) (hs : a.eval s = v) (hown : w.ownsRow base e k v L.length (L.flatMap enc))
  (B : Nat) (y : α) (hx : a.eval x = .slice (some ⟨B, 0, none⟩) 1 1) (hc : ∀ i u, (enc y)[i]? = some u → w.cell? ⟨B, i, none⟩ = some u) (hlen : L.length ≤ 1000000) (hbase : base ≤ w.heap.size)
  (h : ∀ v' w', w'.ownsRow base e k v' (L ++ [y]).length ((L ++ [y]).flatMap enc) → w.grownBy w' v.ownBlock → (∀ j, v'.ownBlock = some j → v.ownBlock = some j ∨ w.heap.size ≤ j) → wpList P ops Q rest (a.put o.dst v') w') : wpList P ops Q (o :: rest) a w := by
 obtain ⟨mi, hmi, hz0, hz1, hzb⟩ := info_parts hinfo;refine qD7 w hgd s x t ho base e mi z k bytes ht hmi hz0 hz1 hzb hzs hk0 v L.length (L.flatMap enc) hs hown ⟨B, 0, none⟩ 1 1 (enc y) hx (by rw [hk, Nat.one_mul]) (fun j u hu => ?_) (h1c y) (by unfold maxLen; omega) (Nat.le_trans (Nat.mul_le_mul (show L.length + 1 ≤ 1000001 by omega) hb8) (by decide)) hbase ?_
 ·have hadd : (⟨B, 0, none⟩ : Addr).add j = ⟨B, j, none⟩ := by unfold Addr.add; split <;> simp_all
  rw [hadd];exact hc j u hu
 ·intro v' w' h1 h2 h3;refine h v' w' ?_ h2 h3;rw [List.flatMap_append, List.flatMap_singleton, show (L ++ [y]).length = L.length + 1 by simp];exact h1
theorem qL7 {W : World} {B : Nat} {cs : Array Value} {t : TypeId} (h : W.heap[B]? = some (.cells cs t)) (i : Nat) (v : Value) : (W.setCell ⟨B, i, none⟩ v).heap[B]? = some (.cells (cs.setIfInBounds i v) t) := by
 simp only [World.setCell, Array.getElem?_modify, h];simp
theorem qHw {β : Type} (B X : Nat) (cs : Array Value) (t : TypeId) : OwnFrom B (fun (_ : β) W => W.heap[X]? = some (.cells cs t)) := fun s W W' row hs hg hr => by
 refine (hg.block X (gsl hs) (fun e => ?_)).trans hs;obtain ⟨-, o, ho, hc⟩ := hr X e.symm;rw [show W.heap[X]? = _ from hs] at ho
 cases ho
 cases hc
theorem qHx {α : Type} {enc : α → List Value} {k bytes : Nat} {z : Value} {F : Fence} {n : Nat} {P : Program} (w : World) {ops : Array Oper} {rest : List Oper} {o : Oper} {a : Act} {Q : Exit → Act → World → Prop} (hgd : o.guard = none) (s x : Operand) (t : TypeId)
  (hk : ∀ x, (enc x).length = k) (h1c : ∀ x, ∀ u ∈ enc x, u.oneCell' = true) (hk0 : 0 < k) (hzs : z.cells.size = k) (hb8 : bytes ≤ 100)
  (ho : o.op = .call { callee := .builtin .append, args := #[s, x], argTypes := #[t, t] })
  (base : Nat) (e : TypeId) (ht : P.underlying t = some (.slice e)) (hinfo : (P.info? e).map (fun i => (i.zero, i.size, i.bytes)) = some (some z, k, bytes))
  (v : Value) (L : List α) (hs : a.eval s = v) (hown : w.ownsRow base e k v L.length (L.flatMap enc))
  (B : Nat) (y : α) (hx : a.eval x = .slice (some ⟨B, 0, none⟩) 1 1) (hc : ∀ i u, (enc y)[i]? = some u → w.cell? ⟨B, i, none⟩ = some u) (hlen : L.length ≤ 1000000) (hbase : base ≤ w.heap.size)
  (h : ∀ v' w', w'.ownsRow base e k v' (L ++ [y]).length ((L ++ [y]).flatMap enc) → w.grownBy w' v.ownBlock → (∀ j, v'.ownBlock = some j → v.ownBlock = some j ∨ w.heap.size ≤ j) → wpListIn F n P ops Q rest (a.put o.dst v') w') : wpListIn F n P ops Q (o :: rest) a w := by
 obtain ⟨mi, hmi, hz0, hz1, hzb⟩ := info_parts hinfo;refine wpListIn_plain hgd fun K hK' => ?_
 obtain ⟨v', w', hr, h2, h3, h4, h5⟩ := qDJ (P := P) w base t o.type e mi z k bytes ht hmi hz0 hz1 hzb hzs hk0 v L.length (L.flatMap enc) hown ⟨B, 0, none⟩ 1 1 (enc y) (by rw [hk, Nat.one_mul]) (fun j u hu => by
  have hadd : (⟨B, 0, none⟩ : Addr).add j = ⟨B, j, none⟩ := by unfold Addr.add; split <;> simp_all
  rw [hadd]
  exact hc j u hu) (h1c y) (by unfold maxLen; omega) (Nat.le_trans (Nat.mul_le_mul (show L.length + 1 ≤ 1000001 by omega) hb8) (by decide)) hbase
 unfold Oper.wpIn;refine ⟨?_, ?_⟩
 ·simp [Oper.about, ho, resolve, Target.leads, Sem.run_pure]
 ·rw [Oper.semAt_plain F _ _ (by rw [ho]; intro c hc'; cases hc')];simp [execOp, ho, resolve, invoke, builtin, hs, hx, hr, Result.andThen];refine hK' _ _ (h v' w' ?_ h3 h5);rw [List.flatMap_append, List.flatMap_singleton, show (L ++ [y]).length = L.length + 1 by simp];exact h2
end Go.Proofs.YtabfaobakmjiaaaGreat
namespace Go.Proofs.YtabfaobakmjiaaaGreat
set_option maxRecDepth 100000
open Go.RowKit
set_option linter.unusedVariables false
set_option linter.unusedSimpArgs false
set_option maxHeartbeats 4000000
open Go.RowKit Go.Shelf
theorem qLA {W W' : World} {row : Option Nat} {base e n size : Nat} {v : Value} {xs : List Value} (h : W.ownsRow base e size v n xs) (hg : W.grownBy W' row) (hr : ∀ r, row = some r → ∃ o : Obj, W.heap[r]? = some o ∧ o.isCells = false) : W'.ownsRow base e size v n xs :=
 qEs h fun k o hk hc => (hg.block k (gsl hk) (fun e => by
  obtain ⟨o', ho', hc'⟩ := hr k e.symm;rw [hk] at ho'
  cases ho'
  rw [hc] at hc'
  cases hc')).trans hk
end Go.Proofs.YtabfaobakmjiaaaGreat
