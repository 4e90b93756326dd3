/- Spots that are traced to paths: read.Trace. -/
import Derived.Test.YtabfaobakmjiaaaGreatPk50
namespace Go.Proofs.YtabfaobakmjiaaaGreat
set_option maxRecDepth 100000
set_option maxHeartbeats 2000000
open Go.RowKit Go.Shelf
set_option linter.unusedVariables false
set_option linter.unusedSimpArgs false
attribute [local go_sem] Oper.semAt_some
def PathsL (w : World) (v : Value) (L : List (List ArmA)) : Prop :=
 ∃ A c, v = .slice A L.length c ∧ L.length ≤ 1000 ∧ (0 < L.length → ∃ b off, A = some ⟨b, off, none⟩ ∧ b < w.heap.size ∧ ∀ j (h : j < L.length), ∃ vr, w.cell? ⟨b, off + j, none⟩ = some vr ∧ ArmsL w vr L[j])
theorem PathsL.le {w W : World} {v : Value} {L : List (List ArmA)} (h : PathsL w v L) (hb : Below w.heap.size w W) : PathsL W v L := by
 obtain ⟨A, c, hv, h1, h2⟩ := h;refine ⟨A, c, hv, h1, fun h0 => ?_⟩;obtain ⟨b, off, ha, hlt, hc⟩ := h2 h0;refine ⟨b, off, ha, Nat.lt_of_lt_of_le hlt hb.size, fun j hj => ?_⟩;obtain ⟨vr, c0, i0⟩ := hc j hj;exact ⟨vr, (Below.cell hb (p := ⟨b, _, none⟩) hlt).trans c0, i0.le hb⟩
theorem PathsL.at {w : World} {v : Value} {L : List (List ArmA)} (h : PathsL w v L) {j : Nat} (hj : j < L.length) : ∃ b off c vr, v = .slice (some ⟨b, off, none⟩) L.length c ∧ b < w.heap.size ∧ w.cell? ⟨b, off + j, none⟩ = some vr ∧ ArmsL w vr L[j] := by
 obtain ⟨A, c, rfl, h1, h2⟩ := h;obtain ⟨b, off, rfl, hb, hc⟩ := h2 (by omega);obtain ⟨vr, c0, i0⟩ := hc j hj;exact ⟨b, off, c, vr, rfl, hb, c0, i0⟩
theorem PathsL.form {w : World} {v : Value} {L : List (List ArmA)} (h : PathsL w v L) : ∃ A c, v = .slice A L.length c ∧ L.length ≤ 1000 := by
 obtain ⟨A, c, rfl, h1, h2⟩ := h;exact ⟨A, c, rfl, h1⟩
theorem qHk {l : List ArmA} {n : Nat} : ∀ {m : Nat} {z : Int}, qBA l n m = .error z → z ≠ 0
 | 0, z, h => by cases h
 | m + 1, z, h => by
  unfold qBA at h
  split at h
  ·rename_i e he;injection h with h;rw [← h];exact qHk he
  ·split at h
   ·rename_i e he;injection h with h;rw [← h];unfold qBX at he
    split at he
    ·rename_i e2 he2;injection he with he;rw [← he];exact qDi _ he2
    ·exact (qHK he).1
   ·cases h
theorem qGl {l : List ArmA} {n z : Int} (h : qA9 l n = .error z) : z ≠ 0 := by
 unfold qA9 at h
 split at h
 ·rename_i h1; injection h with h; rw [← h]; exact h1
 ·split at h
  ·exact qHk h
  ·injection h with h; rw [← h]; decide
def qGm (res : Except Int (List Tra)) (w : World) (e : Ending) (w' : World) : Prop := Below w.heap.size w w' ∧ ∃ v c, e = .returned (.tuple #[v, .int .i64 c]) ∧ match res with
 | .ok L => TraL w' v L ∧ c = 0
 | .error z => v = .slice none 0 0 ∧ c = z
theorem qLB (F : (Nat → Value) → Array Value) (t : Array Value) (h : t = F (fun i => t.getD i undef)) : ∃ u, t = F u := ⟨_, h⟩
theorem MarksT.next {B : Nat} {w w' : World} {ds : List Deferred} (h : Marks B w ds) (hb : Below w.heap.size w w') : Marks B w' ds :=
 h.keep fun D _ hD => (hb.block D (gsl hD)).trans hD
theorem MarksT.lt {B : Nat} {w : World} : ∀ {ds : List Deferred}, Marks B w ds → ∀ d ∈ ds, ∃ D, d = { target := .collected D, args := #[] } ∧ D < w.heap.size
 | [], _, _, h => by cases h
 | d :: ds, ⟨⟨D, hd, hB, hD, hne⟩, hr⟩, d', h => by
  rcases List.mem_cons.1 h with rfl | h
  ·exact ⟨D, hd, (gsl hD)⟩
  ·exact MarksT.lt hr d' h
theorem MarksT.cons {B X : Nat} {w w' : World} {ds : List Deferred} (h : Marks B w' ds) (hlt : ∀ d ∈ ds, ∃ D, d = { target := .collected D, args := #[] } ∧ D < X) {D : Nat} (hD : X ≤ D) (hB : B ≤ D) (hh : w'.heap[D]? = some (.deferred (some []))) :
  Marks B w' ({ target := .collected D, args := #[] } :: ds) :=
 ⟨⟨D, rfl, hB, hh, fun d' hd' e => by
  obtain ⟨D', h1, h2⟩ := hlt d' hd';rw [h1] at e;injection e with e1;injection e1 with e1
  omega⟩, h⟩
theorem SVT.keepC {α : Type} {k : Nat} {enc : α → List Value} {w W : World} {v : Value} {L : List α} (h : SV k enc w v L) (hk : ∀ (k : Nat) (o : Obj), w.heap[k]? = some o → o.isCells = true → W.heap[k]? = some o) (hs : w.heap.size ≤ W.heap.size) (h0 : ∀ x ∈ L, 0 < (enc x).length) : SV k enc W v L := by
 obtain ⟨A, c, hv, h1, h2, hN, h3⟩ := h;refine ⟨A, c, hv, h1, h2, hN, fun h0 => ?_⟩;obtain ⟨b, off, ha, hlt, hc⟩ := h3 h0;refine ⟨b, off, ha, Nat.lt_of_lt_of_le hlt hs, fun j hj i u hu => ?_⟩;have h9 := hc j hj i u hu;refine (World.cell?_of_block (a := ⟨b, off + j * k + i, none⟩) ?_).trans h9;show W.heap[b]? = w.heap[b]?
 cases e : w.heap[b]? with
 | none => simp [World.cell?, e] at h9
 | some o =>
  refine hk b o e ?_
  cases o <;> first | rfl | simp [World.cell?, e] at h9
theorem qKK (path n : Int) (w : World) :
  Calls Tryz.prog 30 #[.int .i64 path, .int .i64 n] w fun e w' => ∃ Bn Bp, e = .returned (.func (.func 60) #[] #[.pointer (some ⟨Bn, 0, none⟩), .pointer (some ⟨Bp, 0, none⟩)]) ∧ Below w.heap.size w w' ∧ w'.heap[Bn]? = some (.cells #[.int .i64 n] 3) ∧ w'.heap[Bp]? = some (.cells #[.int .i64 path] 3) := by
 have hmf : ∀ (fn : Fn) (first cap : Array Value) (w : World), (Instr.makeFunc fn first cap).run Tryz.prog w = .ok (.func fn first cap) w := fun _ _ _ _ => rfl;obtain ⟨W1, hW1, hb1, k1⟩ := newb w (.cells #[.int .i64 path] 3);obtain ⟨W2, hW2, hb2, k2⟩ := newb W1 (.cells #[.int .i64 n] 3);have ⟨hb1', k1', hb2', k2'⟩ := hyd4 hb1 k1 hb2 k2;clear k2 hb2 k1 hb1;go_enter Tryz.func30, Tryz.ntmps30;go_wp2;go_ret;exact ⟨_, _, rfl, belT hb1'.out hb2'.out, k2'.out, blk hb2'.out k1'.out⟩
structure TrI (w W5 : World) (Lb base : Nat) (L : List Tra) (V : World) : Prop where
 kx : KeepX W5 V
 bw : Below w.heap.size w V
 df : ∀ (k : Nat) (d : Option (List Deferred)), W5.heap[k]? = some (.deferred d) → V.heap[k]? = some (.deferred d)
 row : ∃ v, V.heap[Lb]? = some (.cells #[v] 26) ∧ V.ownsRow base 37 4 v L.length (L.flatMap qAs)
 bz : base ≤ V.heap.size
 wl : w.heap.size ≤ Lb
 lb : Lb < base
theorem TrI.next {w W5 V V' : World} {Lb base : Nat} {L : List Tra} (h : TrI w W5 Lb base L V) (hb : Below V.heap.size V V') : TrI w W5 Lb base L V' := by
 obtain ⟨v, h1, h2⟩ := h.row;exact ⟨h.kx.trans (KeepX.fresh hb), belT h.bw hb, fun k d hk => blk hb (h.df k d hk), ⟨v, blk hb h1, qAb h2 hb⟩, Nat.le_trans h.bz hb.size, h.wl, h.lb⟩
theorem TrI.own {w W5 : World} {Lb base : Nat} (hw : w.heap.size ≤ W5.heap.size) (g : List Tra → List Tra) : OwnFrom W5.heap.size (fun pre V => TrI w W5 Lb base (g pre) V) := fun s A B row hs hg hr => by
 obtain ⟨v, h1, h2⟩ := hs.row;refine ⟨hs.kx.trans (KeepX.of_grown hg fun r e cs t h => ?_), Below.grown hs.bw hg hs.bw.size (fun k e => Nat.le_trans hw (hr k e).1), fun k d hk => ?_, ⟨v, qHw W5.heap.size _ _ _ () A B row h1 hg hr, qLA h2 hg (fun r e => (hr r e).2)⟩, Nat.le_trans hs.bz hg.size, hs.wl, hs.lb⟩
 ·obtain ⟨-, o, ho, hc⟩ := hr r e;rw [h] at ho
  cases ho
  cases hc
 ·have hlt := (gsl hk);refine (hg.block k (gsl (hs.df k d hk)) (fun e => ?_)).trans (hs.df k d hk);have := (hr k e.symm).1;omega
theorem TrI.over {w W3 W4 W5 V : World} {Lb base : Nat} {L L' : List Tra} (h : TrI w W3 Lb base L W4) (hb : Below W4.heap.size W4 W5) (h' : TrI w W5 Lb base L' V) : TrI w W3 Lb base L' V :=
 ⟨(h.kx.trans (KeepX.fresh hb)).trans h'.kx, h'.bw, fun k d hk => h'.df k d (blk hb (h.df k d hk)), h'.row, h'.bz, h'.wl, h'.lb⟩
theorem TrI.put {w W5 V Wa w7 : World} {Lb base : Nat} {L : List Tra} {x : Tra} {v v7 : Value} (B : Nat) (h : TrI w W5 Lb base L V) (hv : V.heap[Lb]? = some (.cells #[v] 26)) (ho : V.ownsRow base 37 4 v L.length (L.flatMap qAs)) (hba : Below V.heap.size V Wa) (hg : Wa.grownBy w7 v.ownBlock)
  (q1 : w7.ownsRow base 37 4 v7 (L ++ [x]).length ((L ++ [x]).flatMap qAs)) :
  KeepX V (w7.setCell ⟨Lb, 0, none⟩ v7) ∧ KeepsFrom B V (w7.setCell ⟨Lb, 0, none⟩ v7) ∧ TrI w W5 Lb base (L ++ [x]) (w7.setCell ⟨Lb, 0, none⟩ v7) := by
 have hoa := qAb ho hba
 have hrow : ∀ r, v.ownBlock = some r → base ≤ r ∧ ∃ cs, Wa.heap[r]? = some (.cells cs 37) := fun r e => by
  obtain ⟨q1, q2⟩ := hoa.lt r e;refine ⟨q1, ?_⟩
  rcases hoa.2 with ⟨rfl, -⟩ | ⟨g, cap, cur, rfl, -, hg, -⟩
  ·cases e
  ·injection e with e;subst e;exact ⟨_, hg⟩
 have hlb := h.lb;have hbz := h.bz;have hwl := h.wl;have hza := hba.size;have hzg := hg.size;have hvl := gsl hv;have hL7 : w7.heap[Lb]? = some (.cells #[v] 26) := (hg.block Lb (by omega) (fun e => by have := (hrow Lb e.symm).1; omega)).trans (blk hba hv)
 have hk7 : KeepX V w7 := (KeepX.fresh hba).trans (KeepX.of_grown hg fun g e cs t h9 => by
  obtain ⟨-, cs', h8⟩ := hrow g e;rw [h8] at h9
  cases h9
  exact .inl rfl)
 have hk8 := hk7.trans (KeepX.setCell (i := 0) v7 hL7 (.inr rfl));refine ⟨hk8, ?_, h.kx.trans hk8, ?_, fun k d hk => ?_, ⟨v7, qL7 hL7 0 v7, qKi q1 hlb _⟩, by simp [World.setCell]; omega, hwl, hlb⟩
 ·refine ((KeepsFrom.of_grownBy (qDL hba) (fun j e => by cases e)).trans ⟨hg.size, fun k o hk h1 h2 => (hg.block k (gsl h1) (fun e => ?_)).trans h1⟩).trans ((KeepsOthers.setCell _ _ _).from _);obtain ⟨-, cs, q2⟩ := hrow k e.symm;rw [q2] at h1
  cases h1
  cases h2
 ·exact Below.setCell (Below.grown (belT h.bw hba) hg (by have := h.bw.size; omega) (fun r e => by have := (hrow r e).1; omega)) (p := ⟨Lb, 0, none⟩) hwl _
 ·have h1 := blk hba (h.df k d hk)
  have h2 : w7.heap[k]? = some (.deferred d) := (hg.block k (gsl h1) (fun e => by
   obtain ⟨-, cs, q2⟩ := hrow k e.symm;rw [q2] at h1
   cases h1)).trans h1
  refine (Below.heap_setCell _ ⟨Lb, 0, none⟩ _ k (fun e => ?_)).trans h2;have e : k = Lb := e;subst e;rw [hL7] at h2
  cases h2
theorem SpotsV.keepX {w W : World} {v : Value} {L : List Sp} (h : SpotsV w v L) (ht : ∀ (a : Addr) (n k : Nat), v = .slice (some a) n k → ∃ cs, w.heap[a.block]? = some (.cells cs 41)) (hk : KeepX w W) : SpotsV W v L := by
 obtain ⟨A, c, hv, h1, h2⟩ := h;refine ⟨A, c, hv, h1, fun h0 => ?_⟩;obtain ⟨b, off, ha, hlt, hc⟩ := h2 h0;refine ⟨b, off, ha, Nat.lt_of_lt_of_le hlt hk.size, fun j hj => ?_⟩;obtain ⟨cs, hcs⟩ := ht ⟨b, off, none⟩ _ _ (by rw [hv, ha]);have h2 := hk.tag _ _ _ hcs (by unfold trT; decide);obtain ⟨e0, e1⟩ := hc j hj;exact ⟨(World.cell?_of_block (a := ⟨b, off + j * 2, none⟩) (show W.heap[b]? = w.heap[b]? from h2.trans hcs.symm)).trans e0, (World.cell?_of_block (a := ⟨b, off + j * 2 + 1, none⟩) (show W.heap[b]? = w.heap[b]? from h2.trans hcs.symm)).trans e1⟩
theorem qJ7 : (Tryz.prog.info? 37).map (fun i => (i.zero, i.size, i.bytes)) = some (some (.agg #[.int .i64 0, .int .i64 0, .int .i64 0, .bool false]), 4, 32) := by kernel_rfl
def qMX (w W3 : World) (PA : Option Addr) (pl pc : Nat) (n : Int) (B7 Lb base : Nat) (paths : List (List ArmA)) (seen : List Sp) (tol : Int) (a : Act) (W : World) : Prop :=
 ∃ (t : Array Value) (ds : List Deferred) (k : Nat) (L : List Tra), a = { tmps := t, defers := ds } ∧ (∃ u : Nat → Value, t = #[.slice PA pl pc, .int .i64 n, (u 2), (u 3), (u 4), (u 5), .pointer (some ⟨w.heap.size, 0, none⟩), .pointer (some ⟨B7, 0, none⟩), .slice none 0 0, .int .i64 0, .func (.func 27) #[] #[], .pointer (some ⟨Lb, 0, none⟩), (u 12), (u 13), (u 14), (u 15), (u 16), (u 17), (u 18), (u 19), (u 20), (u 21), (u 22), (u 23), (u 24), (u 25), (u 26), (u 27), (u 28), (u 29), (u 30), (u 31), (u 32), (u 33), (u 34), (u 35), (u 36), (u 37), (u 38), (u 39), (u 40), (u 41), (u 42), (u 43), .slice PA pl pc, .int .i64 (pl : Int), .int .i64 (k : Int), (u 47), (u 48), (u 49), (u 50), (u 51), (u 52), (u 53), (u 54), (u 55), (u 56), (u 57), (u 58), (u 59), (u 60), (u 61), (u 62), (u 63), (u 64), (u 65), (u 66), (u 67), (u 68), (u 69), (u 70), (u 71), (u 72), (u 73), (u 74), (u 75), (u 76), (u 77), (u 78)]) ∧ k ≤ pl ∧ qBJ paths n seen tol k = .ok L ∧ TrI w W3 Lb base L W ∧ Marks w.heap.size W ds
theorem qJT (paths : List (List ArmA)) (n : Int) (seen : List Sp) (tol : Int) (vp vs : Value) (w : World) (hp : PathsL w vp paths) (hs : SpotsV w vs seen) (hfit : ∀ s ∈ seen, fit64 s.1 ∧ fit64 s.2) :
  Calls Tryz.prog 7 #[vp, .int .i64 n, vs, .int .i64 tol] w (qGm (qCN paths n seen tol) w) := by
 obtain ⟨PA, pc, rfl, hpl⟩ := hp.form;obtain ⟨SA, sc, rfl, hsl⟩ := hs.form;obtain ⟨pl, hpn⟩ : ∃ m, paths.length = m := ⟨_, rfl⟩;obtain ⟨sl, hsn⟩ : ∃ m, seen.length = m := ⟨_, rfl⟩;rw [hpn] at hp hpl ⊢;rw [hsn] at hs hsl ⊢;obtain ⟨W1, hW1, hb1, k1⟩ := newb w (.cells #[.slice SA sl sc] 23);obtain ⟨W2, hW2, hb2, k2⟩ := newb W1 (.cells #[.int .i64 tol] 3);have hb12 := belT hb1 hb2;have k12 := blk hb2 k1;have c1 := qBl k12;have c2 := qBl k2;have kcon := qL6 _ seen W2 (hs.le hb12) hfit;obtain ⟨A1, hA1⟩ : ∃ b, qAJ (pl : Int) 1 8 = b := ⟨_, rfl⟩;obtain ⟨A2, hA2⟩ : ∃ b, qAJ n 1 16 = b := ⟨_, rfl⟩;obtain ⟨A3, hA3⟩ : ∃ b, qAJ (sl : Int) 1 (4 * n) = b := ⟨_, rfl⟩;obtain ⟨A4, hA4⟩ : ∃ b, qAJ tol 0 1000 = b := ⟨_, rfl⟩;obtain ⟨A5, hA5⟩ : ∃ b, (seen.all fun x => !farB x) = b := ⟨_, rfl⟩;rw [hA5] at kcon;have hA : trcA paths n seen tol = (A1 && (A2 && (A3 && (A4 && A5)))) := by unfold trcA; rw [hpn, hsn, hA1, hA2, hA3, hA4, hA5]
 have hbad : (A1 && (A2 && (A3 && (A4 && A5)))) = false → qCN paths n seen tol = .error 2 := fun h => by unfold qCN; rw [hA, h]; rfl
 have hz12 : w.heap.size < W1.heap.size := gsl k1;have hz2 : w.heap.size ≤ W2.heap.size := hb12.size
 have w4 : A2 = true → IntKind.i64.wrap (4 * n) = 4 * n := fun h => by
  rw [h] at hA2;have := within_iff.1 hA2;exact IntWalk.i64_in _ (by omega)
 have ⟨hp', hs', hfit', hpn', hsn', hb1', k1', hb2'⟩ := hyd8 hp hs hfit hpn hsn hb1 k1 hb2;have ⟨k2', hb12', k12', kcon', hA1', hA2', hA3', hA4'⟩ := hyd8 k2 hb12 k12 kcon hA1 hA2 hA3 hA4;have ⟨hA5', hA', hbad'⟩ := hyd3 hA5 hA hbad;clear hbad hA hA5 hA4 hA3 hA2 hA1 kcon k12 hb12 k2 hb2 k1 hb1 hsn hpn hfit hs hp;refine (callsIn_wide (n := 5)).1 ?_;refine callsIn_of_wp_marks Tryz.func7 rfl trivial ?_ rfl;simp only [Tryz.ntmps7, List.size_toArray, List.length_cons, List.length_nil, Nat.reduceAdd, Nat.reduceSub, Array.replicate_succ, Array.replicate_zero, List.push_toArray, List.append_toArray, List.nil_append, List.cons_append];refine wpIn_wide.2 ?_;go_wp2_with (fail);clear hW1 hW2;go_at_call 28;refine (qDK _ _ _ _).mono ?_;rintro e w' ⟨rfl, rfl⟩;rw [hA1'.out]
 by_cases e1 : A1 = false
 ·subst e1;have hres := hbad'.out rfl;have hres' := hyd1 hres;clear hres;go_wp2;refine qAZ w.heap.size [] _ trivial fun w9 hb hkeep => ?_;exact ⟨.tuple #[.slice none 0 0, .int .i64 2], by simp [results, Tryz.results7, go_sem], hb12'.out.trans hb, _, _, rfl, by rw [hres'.out]; exact ⟨rfl, rfl⟩⟩
 obtain rfl : A1 = true := by cases A1 <;> simp_all
 clear e1;go_wp2_with (fail);go_at_call 28;refine (qDK _ _ _ _).mono ?_;rintro e w' ⟨rfl, rfl⟩;rw [hA2'.out]
 by_cases e1 : A2 = false
 ·subst e1;have hres := hbad'.out rfl;have hres' := hyd1 hres;clear hres;go_wp2;refine qAZ w.heap.size [] _ trivial fun w9 hb hkeep => ?_;exact ⟨.tuple #[.slice none 0 0, .int .i64 2], by simp [results, Tryz.results7, go_sem], hb12'.out.trans hb, _, _, rfl, by rw [hres'.out]; exact ⟨rfl, rfl⟩⟩
 obtain rfl : A2 = true := by cases A2 <;> simp_all
 have w4 := w4 rfl;clear e1;go_wp2_with (fail);go_at_call 28;refine (qDK _ _ _ _).mono ?_;rintro e w' ⟨rfl, rfl⟩;rw [hA3'.out]
 by_cases e1 : A3 = false
 ·subst e1;have hres := hbad'.out rfl;have hres' := hyd1 hres;clear hres;go_wp2;refine qAZ w.heap.size [] _ trivial fun w9 hb hkeep => ?_;exact ⟨.tuple #[.slice none 0 0, .int .i64 2], by simp [results, Tryz.results7, go_sem], hb12'.out.trans hb, _, _, rfl, by rw [hres'.out]; exact ⟨rfl, rfl⟩⟩
 obtain rfl : A3 = true := by cases A3 <;> simp_all
 clear e1;go_wp2_with (fail);go_at_call 28;refine (qDK _ _ _ _).mono ?_;rintro e w' ⟨rfl, rfl⟩;rw [hA4'.out]
 by_cases e1 : A4 = false
 ·subst e1;have hres := hbad'.out rfl;have hres' := hyd1 hres;clear hres;go_wp2;refine qAZ w.heap.size [] _ trivial fun w9 hb hkeep => ?_;exact ⟨.tuple #[.slice none 0 0, .int .i64 2], by simp [results, Tryz.results7, go_sem], hb12'.out.trans hb, _, _, rfl, by rw [hres'.out]; exact ⟨rfl, rfl⟩⟩
 obtain rfl : A4 = true := by cases A4 <;> simp_all
 clear e1;go_wp2_with (fail);go_at_call 29;refine kcon'.out.mono ?_;rintro e W3 ⟨rfl, hb3⟩;have hb13 := belT hb12'.out hb3
 by_cases e1 : A5 = false
 ·subst e1;have hres := hbad'.out rfl;have ⟨hres', hb3', hb13'⟩ := hyd3 hres hb3 hb13;clear hb13 hb3 hres;go_wp2;refine qAZ w.heap.size [] _ trivial fun w9 hb hkeep => ?_;exact ⟨.tuple #[.slice none 0 0, .int .i64 2], by simp [results, Tryz.results7, go_sem], hb13'.out.trans hb, _, _, rfl, by rw [hres'.out]; exact ⟨rfl, rfl⟩⟩
 obtain rfl : A5 = true := by cases A5 <;> simp_all
 clear e1
 have hT : qCN paths n seen tol = (match qBJ paths n seen tol pl with
  | .error e => .error e
  | .ok L => if L = [] then .error 6 else .ok L) := by unfold qCN; rw [hA'.out, hpn'.out]; rfl
 have hsb : ∀ s ∈ seen, (-10000 ≤ s.1 ∧ s.1 ≤ 10000) ∧ (-10000 ≤ s.2 ∧ s.2 ≤ 10000) := fun s hs => by
  have h9 := List.all_eq_true.1 hA5'.out s hs;unfold farB at h9;simp only [Bool.not_not, Bool.and_eq_true, within_iff] at h9;exact h9
 have ht9 := within_iff.1 hA4'.out;have hp9 := within_iff.1 hA1'.out;have hn9 := within_iff.1 hA2'.out;have hpl8 : pl ≤ 8 := by omega
 obtain ⟨W4, hW4, hb4, k4⟩ := newb W3 (.cells #[.slice none 0 0] 26);have hb24 := belT hb3 hb4;have hb14 := belT hb13 hb4;have ks4 := blk hb24 k12'.out;have kt4 := blk hb24 k2'.out;have hI0 : TrI w W4 W3.heap.size W4.heap.size [] W4 := ⟨KeepX.refl _, hb14, fun _ _ h => h, ⟨_, k4, World.ownsRow_nil _ _ _ _⟩, Nat.le_refl _, hb13.size, gsl k4⟩;have hzw4 : w.heap.size ≤ W4.heap.size := hb14.size;clear c1 c2 hp9 w4 hpl hsl;have ⟨hT', hsb', hb3', hb13', hb4', k4', hb24', hb14'⟩ := hyd8 hT hsb hb3 hb13 hb4 k4 hb24 hb14;have ⟨ks4', kt4', hI0', ht9', hn9'⟩ := hyd5 ks4 kt4 hI0 ht9 hn9;clear hn9 ht9 hI0 kt4 ks4 hb14 hb24 k4 hb4 hb13 hb3 hsb hT;go_wp2_with (fail);clear hW4;refine wp_loop (qMX w W4 PA pl pc n W1.heap.size W3.heap.size W4.heap.size paths seen tol) (fun a _ => pl - (intOf (a.tmps.getD 46 undef)).toNat) ?start ?round
 case start => exact ⟨_, [], 0, [], rfl, qAq _ _ (by kernel_rfl), Nat.zero_le _, rfl, hI0'.out, trivial⟩
 case round =>
  rintro a wr ⟨t, ds, k, L, rfl, ⟨u, rfl⟩, hk, hL, hI, hM⟩
  by_cases hlt : k < pl
  ·have hkp : k < paths.length := by rw [hpn'.out]; exact hlt
   obtain ⟨pb, po, pc9, vr, heq, hpb, g0, hvr⟩ := PathsL.at (hp'.out.le hI.bw) hkp;rw [hpn'.out] at heq;injection heq with e1 e2 e3;subst e1 e3;clear e2;have hgd : paths.getD k [] = paths[k] := by rw [List.getD_eq_getElem?_getD, List.getElem?_eq_getElem hkp]; rfl
   have hpt := qJQ paths[k] n vr wr hvr;have j1 : (k : Int) < (pl : Int) := by omega
   have j2 : (0 : Int) ≤ (k : Int) := by omega
   have ⟨hL', hI', hM', hpt', hgd', hvr', hpb'⟩ := hyd7 hL hI hM hpt hgd hvr hpb;clear hpb hvr hgd hpt hM hI hL;go_wp2_with (fail);clear g0;go_at_call 11;refine hpt'.out.mono ?_;rintro e W5 ⟨hle5, v5, c5, rfl, hr5⟩;have hle5 : Below wr.heap.size wr W5 := hle5
   cases hP : qA9 paths[k] n with
   | error z =>
    rw [hP] at hr5;obtain ⟨rfl, rfl⟩ := hr5;have hz := qGl hP;have hzb : (c5 != 0) = true := by simpa using hz
    have hT2 : qCN paths n seen tol = .error c5 := by
     rw [hT'.out, qF9 hL'.out (by rw [hgd'.out]; exact hP) pl hlt]
    obtain ⟨W6, hW6, hb6, k6⟩ := newb W5 (.cells #[.slice none 0 0] 23);have c6 := qBl k6;have f6 := pfrz k6 0;obtain ⟨W8, hW8, hb8⟩ : ∃ V, W6.setCell ⟨W5.heap.size, 0, none⟩ (.slice none 0 0) = V ∧ Below W5.heap.size W5 V := ⟨_, rfl, hb6.setCell (p := ⟨W5.heap.size, 0, none⟩) (Nat.le_refl _) _⟩;have hb56 := belT hle5 hb8;have hM6 := MarksT.next hM'.out hb56;have hbw6 := belT hI'.out.bw hb56;have ⟨hle5', hP', hT2', hb6', k6', hb56', hM6', hbw6'⟩ := hyd8 hle5 hP hT2 hb6 k6 hb56 hM6 hbw6;have hb8' := hyd1 hb8;clear hb8 hbw6 hM6 hb56 k6 hb6 hT2 hP hle5;go_wp2;refine qAZ w.heap.size ds _ hM6'.out fun w9 hb hkeep => ?_;exact ⟨.tuple #[.slice none 0 0, .int .i64 c5], by simp [results, Tryz.results7, go_sem], hbw6'.out.trans hb, _, _, rfl, by rw [hT2'.out]; exact ⟨rfl, rfl⟩⟩
   | ok P =>
    rw [hP] at hr5;obtain ⟨hsv, rfl, htag⟩ := hr5;obtain ⟨hn1, hPl, hPb⟩ := qEg hP;obtain ⟨A5, c5, rfl, hP1⟩ := hsv.form;obtain ⟨pn, hpnn⟩ : ∃ m, P.length = m := ⟨_, rfl⟩;have hTn := qGj hL'.out (by rw [hgd'.out]; exact hP);rw [hpnn] at hsv htag hP1 hPl hTn ⊢;obtain ⟨W6, hW6, hb6, k6⟩ := newb W5 (.cells #[.slice A5 pn c5] 23);have hb56 := belT hle5 hb6;have c14 := qBl k6;have kw := qKK (k : Int) (pn : Int) W6;have ⟨hle5', hP', hsv', htag', hn1', hPl', hPb', hpnn'⟩ := hyd8 hle5 hP hsv htag hn1 hPl hPb hpnn;have ⟨hTn', hb6', k6', hb56', kw'⟩ := hyd5 hTn hb6 k6 hb56 kw;clear kw hb56 k6 hb6 hTn hpnn hPb hPl hn1 htag hsv hP hle5;go_wp2_with (fail);clear hW6;go_at_call 30;refine kw'.out.mono ?_;rintro e W7 ⟨Bn, Bp, rfl, hb7, kn, kp⟩;have hb57 := belT hb6'.out hb7;have hbr7 := belT hle5'.out hb57;have hI7 := (hI'.out.next hbr7);have hM7 := MarksT.next hM'.out hbr7;have k147 := blk hb7 k6'.out;have hsv7 := hsv'.out.le (show Le W5 W7 from hb57)
    have htag7 : ∀ (a : Addr) (n k : Nat), Value.slice A5 pn c5 = .slice (some a) n k → ∃ cs, W7.heap[a.block]? = some (.cells cs 41) := fun a n k e => by
     obtain ⟨cs, h9⟩ := htag'.out a n k e;exact ⟨cs, blk hb57 h9⟩
    have ks7 := hI7.kx.tag _ _ _ ks4'.out (by unfold trT; decide);have kt7 := hI7.kx.tag _ _ _ kt4'.out (by unfold trT; decide)
    have hI0 : TrI w W7 W3.heap.size W4.heap.size (L ++ gotT P seen tol []) W7 := by
     rw [show gotT P seen tol [] = [] from rfl, List.append_nil];exact ⟨KeepX.refl _, hI7.bw, fun _ _ h => h, hI7.row, hI7.bz, hI7.wl, hI7.lb⟩
    have hLl := qEh hn9'.out hL'.out;have hzw7 : w.heap.size ≤ W7.heap.size := hI7.bw.size;have ⟨hb7', kn', kp', hb57', hbr7', hI7', hM7', k147'⟩ := hyd8 hb7 kn kp hb57 hbr7 hI7 hM7 k147;have ⟨hsv7', htag7', ks7', kt7', hI0', hLl'⟩ := hyd6 hsv7 htag7 ks7 kt7 hI0 hLl;clear hLl hI0 kt7 ks7 htag7 hsv7 k147 hM7 hI7 hbr7 hb57 kp kn hb7;go_wp2_with (fail);refine (wpIn_wide (n := 5)).1 ?_;refine qEm rfl (by omega) (gf := 60) (lb := #[.pointer (some ⟨Bn, 0, none⟩), .pointer (some ⟨Bp, 0, none⟩)]) rfl trivial (enters_of Tryz.func60 (by kernel_rfl) rfl)
     (qIz k pn Bn Bp W7 hP1 kn'.out kp'.out) KeepX.trans (fun V l o o' hl h hc _ => KeepX.put o' h hc) (Below.refl _ _) (fun _ => rfl)
     (fun pre V => TrI w W7 W3.heap.size W4.heap.size (L ++ gotT P seen tol pre) V) (fun _ _ _ => False)
     (TrI.own hzw7 (fun pre => L ++ gotT P seen tol pre)) (fun c s A B row hs hg hr => hs) hI0'.out
     (fun pre x a' V => ∃ (u : Nat → Value) (Fb : Nat), a' = { tmps := #[(u 0), (u 1), (u 2), (u 3), (u 4), (u 5), .pointer (some ⟨w.heap.size, 0, none⟩), .pointer (some ⟨W1.heap.size, 0, none⟩), (u 8), (u 9), (u 10), .pointer (some ⟨W3.heap.size, 0, none⟩), (u 12), (u 13), .pointer (some ⟨W5.heap.size, 0, none⟩), (u 15), .pointer (some ⟨Fb, 0, none⟩), (u 17), (u 18), (u 19), (u 20), (u 21), (u 22), (u 23), (u 24), (u 25), (u 26), (u 27), (u 28), (u 29), (u 30), (u 31), (u 32), (u 33), (u 34), (u 35), (u 36), (u 37), (u 38), (u 39), (u 40), (u 41), (u 42), (u 43), (u 44), (u 45), (u 46), (u 47), (u 48), (u 49), (u 50), (u 51), (u 52), (u 53), (u 54), (u 55), (u 56), (u 57), (u 58), (u 59), (u 60), (u 61), (u 62), (u 63), (u 64), (u 65), (u 66), (u 67), (u 68), (u 69), (u 70), (u 71), (u 72), (u 73), (u 74), (u 75), (u 76), (u 77), (u 78)], defers := [] } ∧ V.heap[Fb]? = some (.cells #[.int .i64 (x.path : Int), .int .i64 (x.fr : Int), .int .i64 (x.q : Int), .bool x.bk] 37) ∧ x = wayK k pre.length ∧ pre.length < 8 * pn)
     (fun pre x a' V o o' h hr => by obtain ⟨u, Fb, h1, h3, h4⟩ := h; exact ⟨u, Fb, h1, (World.putObj_heap_other (fun e => by rw [e, hr] at h3; cases h3)).trans h3, h4⟩) ?assign ?body ?done ?stop
    case assign =>
     intro la pre x V K hI hG hK;obtain ⟨pa, fr, q, bk⟩ := x;dsimp only [qKJ, traV];gi_wp2;have hbV : Below V.heap.size V (V.alloc (.cells #[.int .i64 (pa : Int), .int .i64 (fr : Int), .int .i64 (q : Int), .bool bk] 37)) := (Below.refl _ V).alloc (Nat.le_refl _) _;refine hK _ _ ((KeepsOthers.alloc _ _).from _) (KeepX.fresh hbV) (hI.next hbV) ?_;obtain ⟨u, hu⟩ := qLB (fun u : Nat → Value => #[(u 0), (u 1), (u 2), (u 3), (u 4), (u 5), .pointer (some ⟨w.heap.size, 0, none⟩), .pointer (some ⟨W1.heap.size, 0, none⟩), (u 8), (u 9), (u 10), .pointer (some ⟨W3.heap.size, 0, none⟩), (u 12), (u 13), .pointer (some ⟨W5.heap.size, 0, none⟩), (u 15), .pointer (some ⟨V.heap.size, 0, none⟩), (u 17), (u 18), (u 19), (u 20), (u 21), (u 22), (u 23), (u 24), (u 25), (u 26), (u 27), (u 28), (u 29), (u 30), (u 31), (u 32), (u 33), (u 34), (u 35), (u 36), (u 37), (u 38), (u 39), (u 40), (u 41), (u 42), (u 43), (u 44), (u 45), (u 46), (u 47), (u 48), (u 49), (u 50), (u 51), (u 52), (u 53), (u 54), (u 55), (u 56), (u 57), (u 58), (u 59), (u 60), (u 61), (u 62), (u 63), (u 64), (u 65), (u 66), (u 67), (u 68), (u 69), (u 70), (u 71), (u 72), (u 73), (u 74), (u 75), (u 76), (u 77), (u 78)]) _ (by kernel_rfl);exact ⟨u, V.heap.size, congrArg (fun t => ({ tmps := t, defers := [] } : Act)) hu, heap_alloc_new _ _, hG.1, hG.2⟩
    case body =>
     rintro la pre x a' V hI ⟨u, Fb, rfl, kF, hx, hlt8⟩ hlen;obtain ⟨pa, fr, q, bk⟩ := x;have hxx : fr < pn ∧ q ≤ 3 := by unfold wayK at hx; injection hx with _ h2 h3 h4; omega
     dsimp only at kF;obtain ⟨v, kL, ho⟩ := hI.row;have ho9 := ho;obtain ⟨m, hm⟩ : ∃ m, (L ++ gotT P seen tol pre).length = m := ⟨_, rfl⟩
     have hm8 : m ≤ 1000000 := by
      have h1 := qHO P seen tol pre;have h2 := hLl'.out;rw [List.length_append] at hm;omega
     rw [hm] at ho;obtain ⟨AO, cO, rfl⟩ := qBE ho;have tS : ¬ trT 23 := by unfold trT; decide
     have tI : ¬ trT 3 := by unfold trT; decide
     have ks9 := hI.kx.tag _ _ _ ks7'.out tS;have kt9 := hI.kx.tag _ _ _ kt7'.out tI;have k149 := hI.kx.tag _ _ _ k147'.out tS;have b0 := qBl ks9;have b1 := qBl kt9;have b2 := qBl k149;obtain ⟨d0, d1, d2, d3⟩ := pc4 kF;have ktr := qIy P seen pa fr q bk tol _ _ V (hsv7'.out.keepX htag7'.out hI.kx) (hs'.out.le (show Le w V from hI.bw)) (by rw [hpnn'.out]; exact hxx.1) hxx.2 hPb'.out hsb'.out ht9'.out;obtain ⟨F, hF⟩ : ∃ b, fitT P seen tol ⟨pa, fr, q, bk⟩ = b := ⟨_, rfl⟩;rw [hF] at ktr;have hgs := qHi P seen tol pre ⟨pa, fr, q, bk⟩;rw [hF] at hgs;have ⟨hI', kF', hx', hlt8', hlen', hxx', kL', ho'⟩ := hyd8 hI kF hx hlt8 hlen hxx kL ho;have ⟨ho9', hm', ks9', kt9', k149', ktr', hF', hgs'⟩ := hyd8 ho9 hm ks9 kt9 k149 ktr hF hgs;have ⟨tS', tI'⟩ := hyd2 tS tI;clear tI tS hgs hF ktr k149 kt9 ks9 hm ho9 ho kL hxx hlen hlt8 hx kF hI;gi_wp2_with (fail);refine ⟨trivial, ?_⟩;gi_at_call 31;refine (CallsIn.inRound la (callsIn_wide.2 ktr'.out)).mono ?_;rintro e V2 ⟨rfl, hb2⟩
     cases F with
     | false =>
      have hN := hI'.out.next hb2;have hgs2 : gotT P seen tol (pre ++ [⟨pa, fr, q, bk⟩]) = gotT P seen tol pre := by rw [hgs'.out]; simp
      have ⟨hb2', hN', hgs2'⟩ := hyd3 hb2 hN hgs2;clear hgs2 hN hb2;gi_wp2;exact ⟨KeepsFrom.of_grownBy (qDL hb2'.out) (fun j e => by cases e), KeepX.fresh hb2'.out, by show TrI w W7 W3.heap.size W4.heap.size (L ++ gotT P seen tol (pre ++ [⟨pa, fr, q, bk⟩])) V2; rw [hgs2'.out]; exact hN'.out⟩
     | true =>
      have hN := hI'.out.next hb2;have hgs2 : L ++ gotT P seen tol (pre ++ [⟨pa, fr, q, bk⟩]) = (L ++ gotT P seen tol pre) ++ [⟨pa, fr, q, bk⟩] := by rw [hgs'.out]; simp
      have kL2 := blk hb2 kL'.out;have kF2 := blk hb2 kF'.out;clear b0 b1 b2 d0 d1 d2 d3;obtain ⟨d0, d1, d2, d3⟩ := pc4 kF2;have b3 := qBl kL2;have fL := pfrz kL2 0;obtain ⟨Wa, hWa, hba, ka⟩ := newb V2 (.cells #[.int .i64 (pa : Int), .int .i64 (fr : Int), .int .i64 (q : Int), .bool bk] 37);have hb2a := belT hb2 hba;have hoa := qAb ho9'.out hb2a;have hza : W4.heap.size ≤ Wa.heap.size := Nat.le_trans hI'.out.bz hb2a.size
      have hnew : ∀ (i : Nat) (y : Value), (qAs ⟨pa, fr, q, bk⟩)[i]? = some y → Wa.cell? ⟨V2.heap.size, i, none⟩ = some y := fun i y hu => by
       have hi4 : i < 4 := (List.getElem?_eq_some_iff.1 hu).1;obtain ⟨n0, n1, n2, n3⟩ := pc4 ka
       match i, hi4 with
       | 0, _ => rw [n0]; simpa [qAs] using hu
       | 1, _ => rw [n1]; simpa [qAs] using hu
       | 2, _ => rw [n2]; simpa [qAs] using hu
       | 3, _ => rw [n3]; simpa [qAs] using hu
      have hkL : ∀ w7, Wa.grownBy w7 (Value.slice AO m cO).ownBlock → w7.heap[W3.heap.size]? = some (.cells #[.slice AO m cO] 26) := fun w7 hg => by
       have hlb := hI'.out.lb;refine (hg.block W3.heap.size (by have := gsl (blk hba kL2); omega) (fun e => ?_)).trans (blk hba kL2);have := (hoa.lt _ e.symm).1;omega
      have hm1 : ((L ++ gotT P seen tol pre) ++ [(⟨pa, fr, q, bk⟩ : Tra)]).length = m + 1 := by rw [List.length_append, hm'.out]; rfl
      have hput := fun w7 v7 (hg : Wa.grownBy w7 (Value.slice AO m cO).ownBlock) (q1 : w7.ownsRow W4.heap.size 37 4 v7 (m + 1) (((L ++ gotT P seen tol pre) ++ [(⟨pa, fr, q, bk⟩ : Tra)]).flatMap qAs)) => TrI.put (x := ⟨pa, fr, q, bk⟩) (v7 := v7) W7.heap.size hI'.out kL'.out ho9'.out hb2a hg (by rw [hm1]; exact q1);have ⟨hb2', hN', hgs2', kL2', kF2', hba', ka', hb2a'⟩ := hyd8 hb2 hN hgs2 kL2 kF2 hba ka hb2a;have ⟨hoa', hnew', hkL', hm1', hput'⟩ := hyd5 hoa hnew hkL hm1 hput;clear hput hm1 hkL hnew hoa hb2a ka hba kF2 kL2 hgs2 hN hb2;gi_wp2_with (first | (gi_at_builtin; refine qHx (enc := qAs) (k := 4) (bytes := 32) _ rfl _ _ 26 (fun _ => rfl) (fun x u hu => by simp [qAs] at hu; rcases hu with rfl | rfl | rfl | rfl <;> rfl) (by decide) rfl (by decide) rfl W4.heap.size 37 Tryz.underlying26 qJ7 (.slice AO m cO) (L ++ gotT P seen tol pre) rfl hoa'.out V2.heap.size ⟨pa, fr, q, bk⟩ rfl hnew'.out (by rw [hm'.out]; omega) hza ?_; intro v7 w7 q1 q2 q3; rw [hm1'.out] at q1; (obtain ⟨A7, c7, rfl⟩ := qBE q1); have kL7 := hkL'.out w7 q2; have kc7 := qBl kL7; have kf7 := pfrz kL7 0));obtain ⟨p1, p2, p3⟩ := hput'.out w7 _ q2 q1;exact ⟨p2, p1, by show TrI w W7 W3.heap.size W4.heap.size (L ++ gotT P seen tol (pre ++ [⟨pa, fr, q, bk⟩])) _; rw [hgs2'.out]; exact p3⟩
    case done =>
     rintro D xs V hD rfl hI hKD;have hN := TrI.over hI7'.out (Below.refl _ _) hI;rw [← hpnn'.out] at hN
     have hM9 : Marks w.heap.size V ({ target := .collected D, args := #[] } :: ds) :=
      MarksT.cons (w := W7) (hM7'.out.keep fun D' _ h => hI.df D' _ h) (MarksT.lt hM7'.out) hD (by omega) hKD
     have hTn9 := hTn'.out;rw [← hpnn'.out] at hTn9;have ⟨hI', hKD', hN', hM9', hTn9'⟩ := hyd5 hI hKD hN hM9 hTn9;clear hTn9 hM9 hN hKD hI;go_wp2;exact ⟨⟨_, _, k + 1, _, rfl, qAq _ _ (by kernel_rfl), by omega, hTn9'.out, hN'.out, hM9'.out⟩, by simp [intOf]; omega⟩
    case stop =>
     rintro D cc pre V _ _ h _;exact h.elim
  ·obtain rfl : pl = k := by omega
   obtain ⟨v, hkL, hown⟩ := hI.row;have hrow : TraL wr v L := SV.of_own (e := 37) (enc := qAs) (fun _ => rfl) hown;obtain ⟨m, hm⟩ : ∃ m, L.length = m := ⟨_, rfl⟩;rw [hm] at hown;obtain ⟨AO, cO, rfl⟩ := qBE hown;have ck := qBl hkL;have hbw := hI.bw;have hT2 := hT'.out;rw [hL] at hT2;dsimp only at hT2
   by_cases h0 : m = 0
   ·subst h0;rw [if_pos (List.eq_nil_of_length_eq_zero hm)] at hT2;have ⟨hkL', hown', hrow', hm', hI', hM', hL', hbw'⟩ := hyd8 hkL hown hrow hm hI hM hL hbw;have hT2' := hyd1 hT2;clear hT2 hbw hL hM hI hm hrow hown hkL;go_wp2;refine qAZ w.heap.size ds _ hM'.out fun w9 hb hkeep => ?_;exact ⟨.tuple #[.slice none 0 0, .int .i64 6], by simp [results, Tryz.results7, go_sem], hbw'.out.trans hb, _, _, rfl, by rw [hT2'.out]; exact ⟨rfl, rfl⟩⟩
   ·rw [if_neg (fun h => h0 (by rw [← hm, h]; rfl))] at hT2;have h1 : ¬ (m : Int) = 0 := by omega
    have h2 : 0 < m := by omega
    have ⟨hkL', hown', hrow', hm', hI', hM', hL', hbw'⟩ := hyd8 hkL hown hrow hm hI hM hL hbw;have hT2' := hyd1 hT2;clear hT2 hbw hL hM hI hm hrow hown hkL;go_wp2;refine qAZ w.heap.size ds _ hM'.out fun w9 hb hkeep => ?_;exact ⟨.tuple #[.slice AO m cO, .int .i64 0], by simp [results, Tryz.results7, go_sem], hbw'.out.trans hb, _, _, rfl, by rw [hT2'.out]; exact ⟨SVT.keepC hrow'.out hkeep hb.size (fun _ _ => by show 0 < 4; decide), rfl⟩⟩
end Go.Proofs.YtabfaobakmjiaaaGreat
