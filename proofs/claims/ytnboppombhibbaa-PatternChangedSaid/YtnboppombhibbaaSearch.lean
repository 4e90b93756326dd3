/- bench.search: the sort of the moves of one number of cuts; the loop over the kinds as a whole. bench.search: the moves of one number of cuts are handed to the receiver. bench.search: a round of the outer loop. pattern: bench.search. -/
import Derived.Test.YtnboppombhibbaaSearchRound
import Derived.LoopN
namespace Go.Proofs.Ytnboppombhibbaa
open Go.RowKit Go.Shelf Go.Sort Go.Lib
set_option linter.unusedVariables false
set_option linter.unusedSimpArgs false
attribute [local go_sem] Oper.semAt_some
attribute [local go_sem ↓] Go.wp_at_zero Go.wp_at_succ
theorem sort_nil_ins (w : World) : Calls Try.prog 113 #[.slice none 0 0, .int .i64 0, .int .i64 0, .func (.func 100) #[] #[]] w fun e w' => e = .returned (.tuple #[]) ∧ w = w' := by
  go_enter Try.func113, Try.ntmps113
  go_wp2
  refine wp_loop_rounds 1 ?_
  rw [rounds_succ]
  go_wp2
  go_end0
  exact ⟨rfl, rfl⟩
theorem sort_nil_st (w : World) : Calls Try.prog 109 #[.slice none 0 0, .int .i64 0, .func (.func 100) #[] #[]] w fun e w' => e = .returned (.tuple #[]) ∧ w = w' := by
  go_enter Try.func109, Try.ntmps109
  go_wp2
  refine wp_loop_rounds 1 ?_
  rw [rounds_succ]
  go_wp2_with (first | (go_at_call 113; ((with_reducible refine (sort_nil_ins _).mono ?_); rintro e w' ⟨rfl, rfl⟩)))
  refine wp_loop_rounds 1 ?_
  rw [rounds_succ]
  go_wp2
  go_end0
  exact ⟨rfl, rfl⟩
theorem sort_nil (w : World) : Calls Try.prog 99 #[.slice none 0 0, .func (.func 100) #[] #[]] w fun e w' => e = .returned (.tuple #[]) ∧ w = w' := by
  go_enter Try.func99, Try.ntmps99
  go_wp2_with (first | (go_at_call 109; ((with_reducible refine (sort_nil_st _).mono ?_); rintro e w' ⟨rfl, rfl⟩)))
  go_end0
  exact ⟨rfl, rfl⟩
theorem sort_row (base : Nat) (v : Value) (L : List Mv) (w : World) (h : w.ownsRow base 68 4 v L.length (mvCells L)) (hL : L.length ≤ 19) :
    Calls Try.prog 99 #[v, .func (.func 100) #[] #[]] w fun e w' => e = .returned (.tuple #[]) ∧ w'.ownsRow base 68 4 v (sortMv L).length (mvCells (sortMv L)) ∧ w.grownBy w' v.ownBlock := by
  rcases h.2 with ⟨rfl, h0⟩ | ⟨g, cap, cur, rfl, hb, hh, _⟩
  · have hL0 : L = [] := List.eq_nil_of_length_eq_zero h0
    subst hL0
    refine (sort_nil w).mono ?_
    rintro e w' ⟨rfl, rfl⟩
    exact ⟨rfl, by rw [show sortMv [] = [] by apply List.eq_nil_of_length_eq_zero; rw [sortMv_length]; rfl]; exact World.ownsRow_nil _ _ _ _, World.grownBy.refl _ _⟩
  · have hlt := (Array.getElem?_eq_some_iff.1 hh).1
    have hc := pf_SortStable g cap L.toArray w (own_holds h) hlt (by simpa using hL)
    refine Calls.mono hc ?_
    rintro e w' ⟨rfl, n, os, rfl⟩
    have hsz : (Sort.insertionSort (ltOf cmpMv) L.toArray 0 L.toArray.size).size = L.length := by
      have := sortMv_length L
      unfold sortMv at this
      simpa using this
    obtain ⟨h1, h2, h3⟩ := own_sorted h (Sort.insertionSort (ltOf cmpMv) L.toArray 0 L.toArray.size) hsz n os
    refine ⟨rfl, ?_, rfl, rfl, rfl, h2, fun k hk hne => h3 k hk (fun e => hne (by rw [e]; rfl))⟩
    have e1 : (Sort.insertionSort (ltOf cmpMv) L.toArray 0 L.toArray.size).toList = sortMv L := by unfold sortMv; simp
    rw [e1] at h1
    rw [sortMv_length]
    exact h1
set_option maxRecDepth 1000000 in
theorem kind_end (p q : Prog) (b c B4 B5 B9 B11 B13 KB how g n k : Nat) (cb : Array Value) (st ov : Bool) (W1 wr : World) (ds0 : List Deferred) (a : Act)
    (h : KSt p q how g cb st ov n k B4 B5 B9 B11 B13 KB W1 ds0 4 a wr) (Q : Exit → Act → World → Prop) (hend : ∀ a' w', KSt p q how g cb st ov n k B4 B5 B9 B11 B13 KB W1 ds0 4 a' w' → Q (.exit 2) a' w') : kBody.wp Try.prog Q a wr := by
  obtain ⟨t, ds', v, iz, rfl, hiz, ⟨u, rfl⟩, hb, hm, hrow⟩ := h
  obtain rfl : iz = 4 := hiz
  conv => arg 2; whnf
  have hend' := Lib.hid hend
  have hb' := Lib.hid hb
  have hm' := Lib.hid hm
  have hrow' := Lib.hid hrow
  clear hrow hm hb hend
  go_wp2
  exact hend'.out _ _ ⟨_, ds', v, 4, rfl, rfl, frame_mk _ _ (by kernel_rfl), hb'.out, hm'.out, hrow'.out⟩
set_option maxRecDepth 1000000 in
theorem kinds_loop (p q : Prog) (hp : BenchFacts p) (hq : BenchFacts q) (b c B4 B5 B9 B11 B13 s o k KB how g n : Nat) (cb : Array Value) (st ov : Bool) (W1 : World) (ds0 : List Deferred) (a : Act)
    (hn : n ≤ 1152) (hn0 : 0 < n) (hk : k ≤ 1152) (hs : s ≤ 1000000) (ho : o ≤ 1000000) (hs1 : s = offV p q false) (ho1 : o = offV p q true) (hst : st = offB p q false) (hov : ov = offB p q true) (hhow : how ≤ 3)
    (hE1 : KEnv p q b c B4 B5 B9 B11 B13 s o k W1) (hKB : W1.heap[KB]? = some (.cells (kindCells k) 68)) (h : KSt p q how g cb st ov n k B4 B5 B9 B11 B13 KB W1 ds0 0 a W1) (Q : Exit → Act → World → Prop)
    (hend : ∀ a' w', KSt p q how g cb st ov n k B4 B5 B9 B11 B13 KB W1 ds0 4 a' w' → Q (.exit 2) a' w') : (Code.loop kBody).wp Try.prog Q a W1 := by
  have hmu : ∀ i a' w', KSt p q how g cb st ov n k B4 B5 B9 B11 B13 KB W1 ds0 i a' w' → (intOf (a'.tmps.getD 78 undef)).toNat = i := by
    rintro i a' w' ⟨t, ds', v, iz, rfl, hiz, ⟨u, rfl⟩, _⟩
    show (intOf (Value.int .i64 iz)).toNat = i
    rw [hiz]
    simp [intOf]
  obtain ⟨r1, r2, hr1, hr2, hh1, hh2⟩ : ∃ r1 r2 : Int, bits .and .u8 (how : Int) 1 = r1 ∧ bits .and .u8 (how : Int) 2 = r2 ∧ (r1 == 0) = (how % 2 == 0) ∧ (r2 == 0) = (how / 2 % 2 == 0) := by
    obtain rfl | rfl | rfl | rfl : how = 0 ∨ how = 1 ∨ how = 2 ∨ how = 3 := by omega
    · exact ⟨0, 0, by decide, by decide, by decide, by decide⟩
    · exact ⟨1, 0, by decide, by decide, by decide, by decide⟩
    · exact ⟨0, 2, by decide, by decide, by decide, by decide⟩
    · exact ⟨1, 2, by decide, by decide, by decide, by decide⟩
  refine wp_loop (fun a' w' => ∃ i, i ≤ 4 ∧ KSt p q how g cb st ov n k B4 B5 B9 B11 B13 KB W1 ds0 i a' w') (fun a' _ => 4 - (intOf (a'.tmps.getD 78 undef)).toNat) ⟨0, by omega, h⟩ ?_
  rintro a' w' ⟨i, hi, hK⟩
  have step : ∀ a2 w2, i < 4 → KSt p q how g cb st ov n k B4 B5 B9 B11 B13 KB W1 ds0 (i + 1) a2 w2 → Exit.then (fun a3 w3 => (∃ i, i ≤ 4 ∧ KSt p q how g cb st ov n k B4 B5 B9 B11 B13 KB W1 ds0 i a3 w3) ∧ 4 - (intOf (a3.tmps.getD 78 undef)).toNat < 4 - (intOf (a'.tmps.getD 78 undef)).toNat) Q .normal a2 w2 := by
    intro a2 w2 hlt h2
    refine ⟨⟨i + 1, by omega, h2⟩, ?_⟩
    rw [hmu _ _ _ h2, hmu _ _ _ hK]
    omega
  obtain rfl | rfl | rfl | rfl | rfl : i = 0 ∨ i = 1 ∨ i = 2 ∨ i = 3 ∨ i = 4 := by omega
  · exact kind_at0 p q hp hq b c B4 B5 B9 B11 B13 s o k KB how g n cb st ov _ _ W1 w' ds0 a' hn hn0 hk hs ho hs1 ho1 hst hov r1 r2 hr1 hr2 hh1 hh2 rfl rfl hE1 hKB hK _ (fun a2 w2 h2 => step a2 w2 (by omega) h2)
  · exact kind_at1 p q hp hq b c B4 B5 B9 B11 B13 s o k KB how g n cb st ov _ _ W1 w' ds0 a' hn hn0 hk hs ho hs1 ho1 hst hov r1 r2 hr1 hr2 hh1 hh2 rfl rfl hE1 hKB hK _ (fun a2 w2 h2 => step a2 w2 (by omega) h2)
  · exact kind_at2 p q hp hq b c B4 B5 B9 B11 B13 s o k KB how g n cb st ov _ _ W1 w' ds0 a' hn hn0 hk hs ho hs1 ho1 hst hov r1 r2 hr1 hr2 hh1 hh2 rfl rfl hE1 hKB hK _ (fun a2 w2 h2 => step a2 w2 (by omega) h2)
  · exact kind_at3 p q hp hq b c B4 B5 B9 B11 B13 s o k KB how g n cb st ov _ _ W1 w' ds0 a' hn hn0 hk hs ho hs1 ho1 hst hov r1 r2 hr1 hr2 hh1 hh2 rfl rfl hE1 hKB hK _ (fun a2 w2 h2 => step a2 w2 (by omega) h2)
  · exact kind_end p q b c B4 B5 B9 B11 B13 KB how g n k cb st ov W1 w' ds0 a' hK _ hend
end Go.Proofs.Ytnboppombhibbaa
namespace Go.Proofs.Ytnboppombhibbaa
open Go.RowKit Go.Shelf Go.Sort Go.Lib
set_option linter.unusedVariables false
set_option linter.unusedSimpArgs false
attribute [local go_sem] Oper.semAt_some
attribute [local go_sem ↓] Go.wp_at_zero Go.wp_at_succ
/-- What the benches rest on: Ben holds of a world, and is kept by what is laid, and by a receiver's call. -/
structure BenOk (p q : Prog) (b c N : Nat) (Own : World → Nat → Prop) (Ben : World → Prop) : Prop where
  one : ∀ W, Ben W → IsBench W b p
  two : ∀ W, Ben W → IsBench W c q
  next : ∀ W W', Ben W → Below W.heap.size W W' → Ben W'
  step : ∀ W W', Ben W → Below N W W' → Saves Own W W' → Ben W'
structure SStB (T84 T3 : TypeId) (N : Nat) (w0 : World) (Ben : World → Prop) (B4 B5 B9 B11 b c : Nat) (s o : Nat) (Own : World → Nat → Prop) (Inv : List Mv → World → Prop) (pre : List Mv) (W : World) : Prop where
  below : Below N w0 W
  nle : N ≤ W.heap.size
  ben : Ben W
  inv : Inv pre W
  b4 : W.heap[B4]? = some (.cells #[.pointer (some ⟨b, 0, none⟩)] T84) ∧ ¬ Own W B4
  b5 : W.heap[B5]? = some (.cells #[.pointer (some ⟨c, 0, none⟩)] T84) ∧ ¬ Own W B5
  b9 : W.heap[B9]? = some (.cells #[.int .i64 (s : Int)] T3) ∧ ¬ Own W B9
  b11 : W.heap[B11]? = some (.cells #[.int .i64 (o : Int)] T3) ∧ ¬ Own W B11
section
variable {P : Program} {p q : Prog} {N g : Nat} {cb : Array Value} {goes : Bool} {T84 T3 : TypeId} {w0 : World} {Ben : World → Prop} {B4 B5 B9 B11 b c s o : Nat} {Own : World → Nat → Prop} {Inv : List Mv → World → Prop} {pre : List Mv} {W W' : World}
theorem SStB.next (hK : BenOk p q b c N Own Ben) (hR : Recv P N g cb goes Own Inv) (h : SStB T84 T3 N w0 Ben B4 B5 B9 B11 b c s o Own Inv pre W) (hb : Below W.heap.size W W') : SStB T84 T3 N w0 Ben B4 B5 B9 B11 b c s o Own Inv pre W' := by
  have hf := hR.frame pre W W' h.inv hb.size (fun k hk => hb.block k (hR.own pre W k h.inv hk).2)
  have hl : ∀ {B : Nat} {x : Obj}, W.heap[B]? = some x → W'.heap[B]? = some x := fun hx => (hb.block _ (Array.getElem?_eq_some_iff.1 hx).1).trans hx
  exact ⟨h.below.trans (hb.mono h.nle), Nat.le_trans h.nle hb.size, hK.next _ _ h.ben hb, hf.1, ⟨hl h.b4.1, fun hk => h.b4.2 (hf.2 _ hk)⟩, ⟨hl h.b5.1, fun hk => h.b5.2 (hf.2 _ hk)⟩, ⟨hl h.b9.1, fun hk => h.b9.2 (hf.2 _ hk)⟩, ⟨hl h.b11.1, fun hk => h.b11.2 (hf.2 _ hk)⟩⟩
theorem SStB.step (hK : BenOk p q b c N Own Ben) (h : SStB T84 T3 N w0 Ben B4 B5 B9 B11 b c s o Own Inv pre W) {x : Mv} (hi : Inv (pre ++ [x]) W') (hb : Below N W W') (hs : Saves Own W W') (ho : ∀ k, Own W' k → Own W k ∨ W.heap.size ≤ k) : SStB T84 T3 N w0 Ben B4 B5 B9 B11 b c s o Own Inv (pre ++ [x]) W' := by
  have hl : ∀ {B : Nat} {x : Obj}, W.heap[B]? = some x ∧ ¬ Own W B → W'.heap[B]? = some x ∧ ¬ Own W' B := fun {B x} hx => by
    have hlt := (Array.getElem?_eq_some_iff.1 hx.1).1
    exact ⟨(hs _ hlt hx.2).trans hx.1, fun hk => (ho _ hk).elim hx.2 (fun hk => by omega)⟩
  exact ⟨h.below.trans hb, Nat.le_trans h.nle hb.size, hK.step _ _ h.ben hb hs, hi, hl h.b4, hl h.b5, hl h.b9, hl h.b11⟩
end
def FSt (goes : Bool) (Own : World → Nat → Prop) (Inv : List Mv → World → Prop) (N : Nat) (Ben : World → Prop) (w0 : World) (b c s o how g : Nat) (cb : Array Value) (st ov : Bool) (n k B4 B5 B9 B11 base : Nat) (pre L : List Mv) (v : Value) (ds : List Deferred) (i : Nat) (a : Act) (W : World) : Prop :=
  ∃ (t : Array Value) (iz : Int), a = { tmps := t, defers := ds } ∧ iz = i ∧ (∃ u : Nat → Value, t = #[(u 0), (u 1), .int .u8 how, .func (.func g) #[] cb, .pointer (some ⟨B4, 0, none⟩), .pointer (some ⟨B5, 0, none⟩), (u 6), (u 7), .int .i64 (n : Nat), .pointer (some ⟨B9, 0, none⟩), .bool st, .pointer (some ⟨B11, 0, none⟩), .bool ov, (u 13), (u 14), (u 15), (u 16), (u 17), (u 18), (u 19), (u 20), (u 21), (u 22), (u 23), (u 24), (u 25), (u 26), (u 27), (u 28), (u 29), (u 30), (u 31), (u 32), (u 33), (u 34), (u 35), (u 36), (u 37), (u 38), (u 39), (u 40), (u 41), (u 42), (u 43), (u 44), (u 45), (u 46), (u 47), (u 48), (u 49), (u 50), (u 51), (u 52), (u 53), (u 54), (u 55), (u 56), (u 57), (u 58), (u 59), (u 60), (u 61), (u 62), (u 63), .int .i64 (n : Nat), .int .i64 (k : Nat), (u 66), (u 67), (u 68), (u 69), (u 70), (u 71), (u 72), (u 73), (u 74), (u 75), (u 76), (u 77), (u 78), (u 79), (u 80), (u 81), (u 82), (u 83), (u 84), (u 85), (u 86), (u 87), (u 88), (u 89), (u 90), (u 91), (u 92), (u 93), (u 94), (u 95), (u 96), (u 97), (u 98), (u 99), (u 100), (u 101), (u 102), (u 103), (u 104), (u 105), (u 106), (u 107), (u 108), (u 109), (u 110), (u 111), (u 112), (u 113), (u 114), (u 115), (u 116), (u 117), (u 118), (u 119), (u 120), (u 121), (u 122), (u 123), (u 124), (u 125), (u 126), (u 127), (u 128), (u 129), (u 130), (u 131), (u 132), (u 133), (u 134), (u 135), (u 136), (u 137), (u 138), (u 139), (u 140), (u 141), (u 142), (u 143), (u 144), (u 145), (u 146), (u 147), (u 148), (u 149), (u 150), (u 151), (u 152), (u 153), (u 154), (u 155), (u 156), (u 157), (u 158), (u 159), (u 160), v, .int .i64 (L.length : Nat), .int .i64 iz, (u 164), (u 165), (u 166), (u 167), (u 168), (u 169), (u 170), (u 171), (u 172)]) ∧ SStB 84 3 N w0 Ben B4 B5 B9 B11 b c s o Own Inv (pre ++ L.take i) W ∧
    W.ownsRow base 68 4 v L.length (mvCells L) ∧ (∀ r, v.ownBlock = some r → ¬ Own W r) ∧ OMarks Own N W ds ∧ (goes = false → pre ++ L.take i = [])
theorem enc_cells {W : World} {base e g c : Nat} {L : List Mv} (h : W.ownsRow base e 4 (.slice (some ⟨g, 0, none⟩) L.length c) L.length (mvCells L)) {i : Nat} (hi : i < L.length) :
    W.cell? ⟨g, i * 4, none⟩ = some (.int .i64 L[i].cuts) ∧ W.cell? ⟨g, i * 4 + 1, none⟩ = some (.int .i64 L[i].turn) ∧ W.cell? ⟨g, i * 4 + 2, none⟩ = some (.bool L[i].mirror) ∧ W.cell? ⟨g, i * 4 + 3, none⟩ = some (.bool L[i].back) := by
  have key : ∀ t, t < 4 → W.cell? ⟨g, i * 4 + t, none⟩ = some ((Mv.enc L[i])[t]!) := fun t ht => by
    rw [h.cellAt (i * 4 + t) (by omega), mvCells_get L (i * 4 + t) (by omega)]
    have e1 : (i * 4 + t) / 4 = i := by omega
    have e2 : (i * 4 + t) % 4 = t := by omega
    rw [e1, e2, getElem!_pos L i hi]
  exact ⟨key 0 (by omega), key 1 (by omega), key 2 (by omega), key 3 (by omega)⟩
set_option maxRecDepth 1000000 in
set_option maxHeartbeats 2000000 in
theorem found_round {p q : Prog} (goes : Bool) (Own : World → Nat → Prop) (Inv : List Mv → World → Prop) (N : Nat) (Ben : World → Prop) (w0 : World) (b c s o how g : Nat) (cb : Array Value) (st ov : Bool) (n k B4 B5 B9 B11 base : Nat) (pre L : List Mv) (v : Value) (ds : List Deferred) (i : Nat) (a : Act) (W : World)
    (hR : Recv Try.prog N g cb goes Own Inv) (hK : BenOk p q b c N Own Ben) (hpl : pre.length + L.length ≤ 10000) (hi : i ≤ L.length) (h : FSt goes Own Inv N Ben w0 b c s o how g cb st ov n k B4 B5 B9 B11 base pre L v ds i a W) (Q : Exit → Act → World → Prop) (id : Nat)
    (hnext : i < L.length → ∀ a' w', FSt goes Own Inv N Ben w0 b c s o how g cb st ov n k B4 B5 B9 B11 base pre L v ds (i + 1) a' w' → Q .normal a' w')
    (hend : i = L.length → ∀ a' w', FSt goes Own Inv N Ben w0 b c s o how g cb st ov n k B4 B5 B9 B11 base pre L v ds L.length a' w' → Q (.exit 6) a' w')
    (hret : i < L.length → goes = false → ∀ t' w', pre ++ L.take i = [] → SStB 84 3 N w0 Ben B4 B5 B9 B11 b c s o Own Inv (pre ++ L.take (i + 1)) w' → OMarks Own N w' ds → Q .ret { tmps := t', defers := ds } w') :
    fBody.wp Try.prog Q a W := by
  obtain ⟨t, iz, rfl, hiz, ⟨u, rfl⟩, hS, hrow, hno, hom, hgo⟩ := h
  conv => arg 2; whnf
  have hLl : L.length ≤ 10000 := by omega
  by_cases hlt : i < L.length
  · have hlz : (iz : Int) < (L.length : Int) := by omega
    have hv : ∃ gb cp, v = .slice (some ⟨gb, 0, none⟩) L.length cp ∧ gb < W.heap.size := by
      rcases hrow.2 with ⟨rfl, h0⟩ | ⟨g', cap, cur, rfl, hb, hh, _⟩
      · omega
      · exact ⟨g', cap, rfl, (Array.getElem?_eq_some_iff.1 hh).1⟩
    obtain ⟨gb, cp, rfl, hgl⟩ := hv
    obtain ⟨c0, c1, c2, c3⟩ := enc_cells hrow hlt
    have htk : L.take (i + 1) = L.take i ++ [L[i]] := by rw [List.take_add_one, List.getElem?_eq_getElem hlt]; rfl
    generalize hx : L[i] = x at c0 c1 c2 c3 htk
    obtain ⟨xc, xt, xm, xb⟩ := x
    have hent := hR.enters
    subst hiz
    have hend' := trivial
    clear hend hend'
    have hR' := Lib.hid hR
    have hS' := Lib.hid hS
    have hrow' := Lib.hid hrow
    have hno' := Lib.hid hno
    have hom' := Lib.hid hom
    have hgo' := Lib.hid hgo
    have hnext' := Lib.hid hnext
    have hret' := Lib.hid hret
    have htk' := Lib.hid htk
    have hx' := Lib.hid hx
    clear hx htk hret hnext hgo hom hno hrow hS hR
    go_upto_region 32 with (fail)
    refine wp_alloc4 ?_
    intro W2 hb2 hX2 hz2
    clear c0 c1 c2 c3
    obtain ⟨x0, x1, x2, x3⟩ := move_cells hX2
    obtain ⟨X, hX⟩ : ∃ X, W.heap.size = X := ⟨_, rfl⟩
    rw [hX] at hX2 hz2 x0 x1 x2 x3 ⊢
    have hR := hR'.out
    have hS2 := SStB.next hK hR hS'.out hb2
    have hrow2 := own_below hrow'.out hb2
    have hO2 : ∀ k, Own W2 k → Own W k := (hR.frame _ W W2 hS'.out.inv hb2.size (fun k hk => hb2.block k (hR.own _ W k hS'.out.inv hk).2)).2
    have hno2 : ¬ Own W2 gb := fun hk => hno'.out gb rfl (hO2 gb hk)
    have hom2 := OMarks.next hR hS'.out.inv hom'.out hb2
    have hgl2 : gb < W2.heap.size := Nat.lt_of_lt_of_le hgl hb2.size
    have hplen : (pre ++ L.take i).length ≤ 10000 := by simp; omega
    have hcall := hR.call _ ⟨xc, xt, xm, xb⟩ W2 hS2.inv hplen
    have hcall2 : Calls Try.prog g (#[.agg #[.int .i64 xc, .int .i64 xt, .bool xm, .bool xb]] ++ cb) W2 fun e w' => e = .returned (.bool goes) ∧ SStB 84 3 N w0 Ben B4 B5 B9 B11 b c s o Own Inv (pre ++ L.take (i + 1)) w' ∧ w'.ownsRow base 68 4 (.slice (some ⟨gb, 0, none⟩) L.length cp) L.length (mvCells L) ∧ (∀ r, Value.ownBlock (.slice (some ⟨gb, 0, none⟩) L.length cp) = some r → ¬ Own w' r) ∧ OMarks Own N w' ds := by
      refine hcall.mono ?_
      rintro e w' ⟨rfl, hi2, hbl, hsv, hown⟩
      refine ⟨rfl, ?_, own_same hrow2 (hsv gb hgl2 hno2), ?_, hom2.step hsv hown⟩
      · rw [htk'.out, ← List.append_assoc] at *
        exact SStB.step hK hS2 hi2 hbl hsv hown
      · intro r hr
        injection hr with hr
        subst hr
        intro hk
        exact (hown gb hk).elim hno2 (fun hk => by omega)
    clear hR hS2 hrow2 hO2 hno2 hom2 hcall hgl2
    have hcall2' := Lib.hid hcall2
    have hX' := Lib.hid hX
    have hX2' := Lib.hid hX2
    have hb2' := Lib.hid hb2
    have hz2' := Lib.hid hz2
    clear hz2 hb2 hX2 hX hcall2
    cases goes with
    | true =>
      go_wp2_with (refine hcall2'.out.mono ?_; rintro e w' ⟨rfl, k1, k2, k3, k4⟩; have k1' := Lib.hid k1; have k2' := Lib.hid k2; have k3' := Lib.hid k3; have k4' := Lib.hid k4; clear k1 k2 k3 k4)
      exact hnext'.out hlt _ _ ⟨_, (i : Int) + 1, rfl, by simp, frame_mk _ _ (by kernel_rfl), k1'.out, k2'.out, k3'.out, k4'.out, fun h => by cases h⟩
    | false =>
      go_wp2_with (refine hcall2'.out.mono ?_; rintro e w' ⟨rfl, k1, k2, k3, k4⟩; have k1' := Lib.hid k1; have k2' := Lib.hid k2; have k3' := Lib.hid k3; have k4' := Lib.hid k4; clear k1 k2 k3 k4)
      exact hret'.out hlt (by first | rfl | trivial) _ _ (hgo'.out (by first | rfl | trivial)) k1'.out k4'.out
  · have hie : i = L.length := by omega
    have hlz : ¬ (iz : Int) < (L.length : Int) := by omega
    have hR' := Lib.hid hR
    have hS' := Lib.hid hS
    have hrow' := Lib.hid hrow
    have hno' := Lib.hid hno
    have hom' := Lib.hid hom
    have hgo' := Lib.hid hgo
    have hnext' := Lib.hid hnext
    have hret' := Lib.hid hret
    have hiz' := Lib.hid hiz
    have hie' := Lib.hid hie
    have hend' := Lib.hid hend
    clear hend hie hiz hret hnext hgo hom hno hrow hS hR
    go_wp2
    exact hend'.out hie'.out _ _ ⟨_, iz, rfl, by rw [hiz'.out, hie'.out], frame_mk _ _ (by kernel_rfl), by rw [← hie'.out]; exact hS'.out, hrow'.out, hno'.out, hom'.out, by rw [← hie'.out]; exact hgo'.out⟩
theorem found_loop {p q : Prog} (goes : Bool) (Own : World → Nat → Prop) (Inv : List Mv → World → Prop) (N : Nat) (Ben : World → Prop) (w0 : World) (b c s o how g : Nat) (cb : Array Value) (st ov : Bool) (n k B4 B5 B9 B11 base : Nat) (pre L : List Mv) (v : Value) (ds : List Deferred) (a : Act) (W : World)
    (hR : Recv Try.prog N g cb goes Own Inv) (hK : BenOk p q b c N Own Ben) (hpl : pre.length + L.length ≤ 10000) (h : FSt goes Own Inv N Ben w0 b c s o how g cb st ov n k B4 B5 B9 B11 base pre L v ds 0 a W) (Q : Exit → Act → World → Prop)
    (hend : ∀ a' w', FSt goes Own Inv N Ben w0 b c s o how g cb st ov n k B4 B5 B9 B11 base pre L v ds L.length a' w' → Q (.exit 6) a' w')
    (hret : goes = false → ∀ i t' w', i < L.length → pre ++ L.take i = [] → SStB 84 3 N w0 Ben B4 B5 B9 B11 b c s o Own Inv (pre ++ L.take (i + 1)) w' → OMarks Own N w' ds → Q .ret { tmps := t', defers := ds } w') :
    (Code.loop fBody).wp Try.prog Q a W := by
  have hmu : ∀ i a' w', FSt goes Own Inv N Ben w0 b c s o how g cb st ov n k B4 B5 B9 B11 base pre L v ds i a' w' → (intOf (a'.tmps.getD 163 undef)).toNat = i := by
    rintro i a' w' ⟨t, iz, rfl, hiz, ⟨u, rfl⟩, _⟩
    show (intOf (Value.int .i64 iz)).toNat = i
    rw [hiz]
    simp [intOf]
  refine wp_loop (fun a' w' => ∃ i, i ≤ L.length ∧ FSt goes Own Inv N Ben w0 b c s o how g cb st ov n k B4 B5 B9 B11 base pre L v ds i a' w') (fun a' _ => L.length - (intOf (a'.tmps.getD 163 undef)).toNat) ⟨0, by omega, h⟩ ?_
  rintro a' w' ⟨i, hi, hF⟩
  refine found_round goes Own Inv N Ben w0 b c s o how g cb st ov n k B4 B5 B9 B11 base pre L v ds i a' w' hR hK hpl hi hF _ 0 ?_ ?_ ?_
  · intro hlt a2 w2 h2
    refine ⟨⟨i + 1, by omega, h2⟩, ?_⟩
    rw [hmu _ _ _ h2, hmu _ _ _ hF]
    omega
  · intro _ a2 w2 h2
    exact hend a2 w2 h2
  · intro hlt hg t' w2 h1 h2 h3
    exact hret hg i t' w2 hlt h1 h2 h3
end Go.Proofs.Ytnboppombhibbaa
namespace Go.Proofs.Ytnboppombhibbaa
open Go.RowKit Go.Shelf Go.Sort Go.Lib
set_option linter.unusedVariables false
set_option linter.unusedSimpArgs false
attribute [local go_sem] Oper.semAt_some
attribute [local go_sem ↓] Go.wp_at_zero Go.wp_at_succ
def SRel (p q : Prog) (goes : Bool) (Own : World → Nat → Prop) (Inv : List Mv → World → Prop) (N : Nat) (Ben : World → Prop) (w0 : World) (b c s o how g : Nat) (cb : Array Value) (st ov : Bool) (n B4 B5 B9 B11 : Nat) (k : Nat) (a : Act) (W : World) : Prop :=
  ∃ (t : Array Value) (ds : List Deferred) (iz : Int), a = { tmps := t, defers := ds } ∧ iz = k ∧ (∃ u : Nat → Value, t = #[(u 0), (u 1), .int .u8 how, .func (.func g) #[] cb, .pointer (some ⟨B4, 0, none⟩), .pointer (some ⟨B5, 0, none⟩), (u 6), (u 7), .int .i64 (n : Nat), .pointer (some ⟨B9, 0, none⟩), .bool st, .pointer (some ⟨B11, 0, none⟩), .bool ov, (u 13), (u 14), (u 15), (u 16), (u 17), (u 18), (u 19), (u 20), (u 21), (u 22), (u 23), (u 24), (u 25), (u 26), (u 27), (u 28), (u 29), (u 30), (u 31), (u 32), (u 33), (u 34), (u 35), (u 36), (u 37), (u 38), (u 39), (u 40), (u 41), (u 42), (u 43), (u 44), (u 45), (u 46), (u 47), (u 48), (u 49), (u 50), (u 51), (u 52), (u 53), (u 54), (u 55), (u 56), (u 57), (u 58), (u 59), (u 60), (u 61), (u 62), (u 63), .int .i64 (n : Nat), .int .i64 iz, (u 66), (u 67), (u 68), (u 69), (u 70), (u 71), (u 72), (u 73), (u 74), (u 75), (u 76), (u 77), (u 78), (u 79), (u 80), (u 81), (u 82), (u 83), (u 84), (u 85), (u 86), (u 87), (u 88), (u 89), (u 90), (u 91), (u 92), (u 93), (u 94), (u 95), (u 96), (u 97), (u 98), (u 99), (u 100), (u 101), (u 102), (u 103), (u 104), (u 105), (u 106), (u 107), (u 108), (u 109), (u 110), (u 111), (u 112), (u 113), (u 114), (u 115), (u 116), (u 117), (u 118), (u 119), (u 120), (u 121), (u 122), (u 123), (u 124), (u 125), (u 126), (u 127), (u 128), (u 129), (u 130), (u 131), (u 132), (u 133), (u 134), (u 135), (u 136), (u 137), (u 138), (u 139), (u 140), (u 141), (u 142), (u 143), (u 144), (u 145), (u 146), (u 147), (u 148), (u 149), (u 150), (u 151), (u 152), (u 153), (u 154), (u 155), (u 156), (u 157), (u 158), (u 159), (u 160), (u 161), (u 162), (u 163), (u 164), (u 165), (u 166), (u 167), (u 168), (u 169), (u 170), (u 171), (u 172)]) ∧ SStB 84 3 N w0 Ben B4 B5 B9 B11 b c s o Own Inv (preMv p q how n k) W ∧
    OMarks Own N W ds ∧ (goes = false → preMv p q how n k = [])
theorem wp_two {P : Program} {cc : Code} {Q : Exit → Act → World → Prop} {a : Act} {W : World} {o1 o2 : Obj} (h : ∀ W1, Below W.heap.size W W1 → W1.heap[W.heap.size]? = some o1 → W1.heap[W.heap.size + 1]? = some o2 → W1.heap.size = W.heap.size + 2 → cc.wp P Q a W1) : cc.wp P Q a ((W.alloc o1).alloc o2) :=
  h _ (alc2 _ _ _) ((Below.heap_alloc _ _ _ (by simp)).trans (heap_alloc_new _ _)) (by have h := heap_alloc_new (W.alloc o1) o2; rw [World.size_alloc] at h; exact h) (by simp)
theorem cutMv_length (p q : Prog) (how n k : Nat) : (cutMv p q how n k).length ≤ 4 := by
  unfold cutMv; rw [sortMv_length]; exact kindsMv_le p q how n k 4
theorem preMv_length (p q : Prog) (how n : Nat) : ∀ k, (preMv p q how n k).length ≤ 4 * k := by
  intro k
  induction k with
  | zero => simp [preMv]
  | succ k ih => rw [preMv_succ, List.length_append]; have := cutMv_length p q how n k; omega
theorem OMarks.more {P : Program} {n0 g : Nat} {cb : Array Value} {goes : Bool} {Own : World → Nat → Prop} {Inv : List Mv → World → Prop} {pre : List Mv} {B : Nat} {W1 W' : World} (hR : Recv P n0 g cb goes Own Inv) (hI : Inv pre W1) (hb : Below W1.heap.size W1 W') (hB : B ≤ W1.heap.size) {ds0 : List Deferred} (h0 : OMarks Own B W1 ds0) :
    ∀ {ds : List Deferred}, Marks W1.heap.size W' ds → OMarks Own B W' (ds ++ ds0)
  | [], _ => OMarks.next hR hI h0 hb
  | d :: ds, ⟨⟨D, hd, hD1, hD, hne⟩, hr⟩ => by
    refine ⟨⟨D, hd, by omega, hD, fun hk => ?_, fun d' hd' e => ?_⟩, OMarks.more hR hI hb hB h0 hr⟩
    · have h1 := (hR.frame _ _ _ hI hb.size (fun k hk => hb.block k (hR.own _ _ k hI hk).2)).2 D hk
      have := (hR.own _ _ D hI h1).2
      omega
    · rcases List.mem_append.1 hd' with h | h
      · exact hne d' h e
      · obtain ⟨D', h1, h2⟩ := h0.lt d' h
        rw [hd, h1] at e
        injection e with e1
        injection e1 with e1
        omega
set_option maxRecDepth 1000000 in
set_option maxHeartbeats 2000000 in
theorem search_round (p q : Prog) (hp : BenchFacts p) (hq : BenchFacts q) (goes : Bool) (Own : World → Nat → Prop) (Inv : List Mv → World → Prop) (N : Nat) (Ben : World → Prop) (w0 : World) (b c s o how g : Nat) (cb : Array Value) (st ov : Bool) (n B4 B5 B9 B11 : Nat) (k : Nat) (a : Act) (W : World)
    (hR : Recv Try.prog N g cb goes Own Inv) (hK : BenOk p q b c N Own Ben) (hn : n ≤ 1152) (hn0 : 0 < n) (hs : s ≤ 1000000) (ho : o ≤ 1000000) (hs1 : s = offV p q false) (ho1 : o = offV p q true) (hst : st = offB p q false) (hov : ov = offB p q true) (hhow : how ≤ 3)
    (hk : k ≤ n) (h : SRel p q goes Own Inv N Ben w0 b c s o how g cb st ov n B4 B5 B9 B11 k a W) (Q : Exit → Act → World → Prop)
    (hnext : k < n → ∀ a' w', SRel p q goes Own Inv N Ben w0 b c s o how g cb st ov n B4 B5 B9 B11 (k + 1) a' w' → Q .normal a' w')
    (hend : k = n → ∀ a' w', SRel p q goes Own Inv N Ben w0 b c s o how g cb st ov n B4 B5 B9 B11 n a' w' → Q (.exit 0) a' w')
    (hret : goes = false → k < n → ∀ i t' ds w', i < (cutMv p q how n k).length → preMv p q how n k ++ (cutMv p q how n k).take i = [] → SStB 84 3 N w0 Ben B4 B5 B9 B11 b c s o Own Inv (preMv p q how n k ++ (cutMv p q how n k).take (i + 1)) w' → OMarks Own N w' ds → Q .ret { tmps := t', defers := ds } w') :
    sBody.wp Try.prog Q a W := by
  obtain ⟨t, ds, iz, rfl, hiz, ⟨u, rfl⟩, hS, hom, hgo⟩ := h
  conv => arg 2; whnf
  by_cases hlt : k < n
  · subst hiz
    have hlz : ((k : Int)) < (n : Int) := by omega
    clear hend
    have hR' := Lib.hid hR
    have hS' := Lib.hid hS
    have hom' := Lib.hid hom
    have hgo' := Lib.hid hgo
    have hnext' := Lib.hid hnext
    have hret' := Lib.hid hret
    have hs1' := Lib.hid hs1
    have ho1' := Lib.hid ho1
    have hst' := Lib.hid hst
    have hov' := Lib.hid hov
    clear hov hst ho1 hs1 hret hnext hgo hom hS hR
    go_wp2
    go_step3
    go_wp2
    go_step3
    go_wp2
    refine wp_two ?_
    intro W1 hb1 hB13 hKB hz1
    obtain ⟨X, hX⟩ : ∃ X, W.heap.size = X := ⟨_, rfl⟩
    rw [hX] at hB13 hKB hz1 ⊢
    have hR := hR'.out
    have hS1 := SStB.next hK hR hS'.out hb1
    have hom1 := OMarks.next hR hS'.out.inv hom'.out hb1
    have hE1 : KEnv p q b c B4 B5 B9 B11 X s o k W1 := ⟨hK.one _ hS1.ben, hK.two _ hS1.ben, hS1.b4.1, hS1.b5.1, hS1.b9.1, hS1.b11.1, hB13⟩
    refine kinds_loop p q hp hq b c B4 B5 B9 B11 X s o k (X + 1) how g n cb st ov W1 ds _ hn hn0 (by omega) hs ho hs1'.out ho1'.out hst'.out hov'.out hhow hE1 hKB ?_ _ ?_
    · exact ⟨_, [], .slice none 0 0, 0, rfl, rfl, frame_mk _ _ (by kernel_rfl), Below.refl _ _, trivial, World.ownsRow_nil _ _ _ _⟩
    rintro a2 W2 ⟨t2, ds2, v, iz2, rfl, hiz2, ⟨u2, rfl⟩, hb2, hm2, hrow2⟩
    have hS2 := SStB.next hK hR hS1 hb2
    have hom2 := OMarks.more hR hS1.inv hb2 hS1.nle hom1 hm2
    have hL4 := kindsMv_le p q how n k 4
    have hsort := sort_row W1.heap.size v (kindsMv p q how n k 4) W2 hrow2 (by omega)
    have hcut : sortMv (kindsMv p q how n k 4) = cutMv p q how n k := rfl
    rw [hcut] at hsort
    have hbs := hS1.nle
    have hvl := hrow2.lt
    have hO1 : ∀ W', Below W1.heap.size W1 W' → ∀ r, Own W' r → r < W1.heap.size := fun W' hb r hr => (hR.own _ W1 r hS1.inv ((hR.frame _ W1 W' hS1.inv hb.size (fun k hk => hb.block k (hR.own _ W1 k hS1.inv hk).2)).2 r hr)).2
    have hm2' := hm2
    have hlenc : (sortMv (kindsMv p q how n k 4)).length = (kindsMv p q how n k 4).length := sortMv_length _
    rw [hcut] at hlenc
    have hsort2 : Calls Try.prog 99 #[v, .func (.func 100) #[] #[]] W2 fun e w' => e = .returned (.tuple #[]) ∧ SStB 84 3 N w0 Ben B4 B5 B9 B11 b c s o Own Inv (preMv p q how n k) w' ∧ w'.ownsRow W1.heap.size 68 4 v (cutMv p q how n k).length (mvCells (cutMv p q how n k)) ∧ (∀ r, v.ownBlock = some r → ¬ Own w' r) ∧ OMarks Own N w' (ds2 ++ ds) := by
      refine hsort.mono ?_
      rintro e w' ⟨rfl, hr, hg⟩
      have hb3 : Below W1.heap.size W1 w' := hb2.grown hg hb2.size (fun k e => (hvl k e).1)
      have hm3 : Marks W1.heap.size w' ds2 := hm2.keep fun D _ hD => (hg.block D (Array.getElem?_eq_some_iff.1 hD).1 (own_ne hrow2 hD)).trans hD
      exact ⟨rfl, SStB.next hK hR hS1 hb3, hr, fun r hv hk => by have := hO1 w' hb3 r hk; have := (hvl r hv).1; omega, OMarks.more hR hS1.inv hb3 hbs hom1 hm3⟩
    have hv3 : ∃ A cp, v = .slice A (cutMv p q how n k).length cp := by
      rw [hlenc]
      rcases hrow2.2 with ⟨rfl, h0⟩ | ⟨g', cap, cur, rfl, _⟩
      · exact ⟨none, 0, by rw [h0]⟩
      · exact ⟨_, cap, rfl⟩
    obtain ⟨vA, vc, rfl⟩ := hv3
    have hpre4 := preMv_length p q how n k
    have hcut4 := cutMv_length p q how n k
    clear hsort hrow2 hm2 hm2' hom2 hS2 hO1 hvl hom1 hS1 hE1 hKB hB13 hb1 hcut hL4
    have hsort2' := Lib.hid hsort2
    have hlenc' := Lib.hid hlenc
    have hX' := Lib.hid hX
    have hz1' := Lib.hid hz1
    have hbs' := Lib.hid hbs
    have hb2' := Lib.hid hb2
    have hiz2' := Lib.hid hiz2
    clear hiz2 hb2 hbs hz1 hX hlenc hsort2
    go_wp2_with (first | (go_at_call 99; refine hsort2'.out.mono ?_; rintro e w' ⟨rfl, k1, k2, k3, k4⟩; have k1' := Lib.hid k1; have k2' := Lib.hid k2; have k3' := Lib.hid k3; have k4' := Lib.hid k4; clear k1 k2 k3 k4))
    refine found_loop goes Own Inv N Ben w0 b c s o how g cb st ov n k B4 B5 B9 B11 W1.heap.size (preMv p q how n k) (cutMv p q how n k) (.slice vA (cutMv p q how n k).length vc) (ds2 ++ ds) _ w' hR hK (by omega) ?_ _ ?_ ?_
    · exact ⟨_, 0, rfl, rfl, frame_mk _ _ (by kernel_rfl), by rw [List.take_zero, List.append_nil]; exact k1'.out, k2'.out, k3'.out, k4'.out, by rw [List.take_zero, List.append_nil]; exact hgo'.out⟩
    · rintro a3 W3 ⟨t3, iz3, rfl, hiz3, ⟨u3, rfl⟩, hS3, _, _, hom3, hgo3⟩
      rw [List.take_of_length_le (Nat.le_refl _), ← preMv_succ] at hS3 hgo3
      have hS3' := Lib.hid hS3
      have hom3' := Lib.hid hom3
      have hgo3' := Lib.hid hgo3
      have hiz3' := Lib.hid hiz3
      clear hiz3 hgo3 hom3 hS3
      go_wp2
      rw [Exit.noGoto_normal]
      go_wp2
      exact hnext'.out hlt _ _ ⟨_, _, (k : Int) + 1, rfl, by simp, frame_mk _ _ (by kernel_rfl), hS3'.out, hom3'.out, hgo3'.out⟩
    · intro hg i t' w3 hi h1 h2 h3
      exact hret'.out hg hlt i t' _ w3 hi h1 h2 h3
  · have hie : k = n := by omega
    have hlz : ¬ (iz : Int) < (n : Int) := by omega
    have hR' := Lib.hid hR
    have hS' := Lib.hid hS
    have hom' := Lib.hid hom
    have hgo' := Lib.hid hgo
    have hnext' := Lib.hid hnext
    have hret' := Lib.hid hret
    have hiz' := Lib.hid hiz
    have hie' := Lib.hid hie
    have hend' := Lib.hid hend
    have hs1' := Lib.hid hs1
    have ho1' := Lib.hid ho1
    have hst' := Lib.hid hst
    have hov' := Lib.hid hov
    clear hov hst ho1 hs1 hend hie hiz hret hnext hgo hom hS hR
    go_wp2
    exact hend'.out hie'.out _ _ ⟨_, _, iz, rfl, by rw [hiz'.out, hie'.out], frame_mk _ _ (by kernel_rfl), by have h := hS'.out; rw [hie'.out] at h; exact h, hom'.out, by have h := hgo'.out; rw [hie'.out] at h; exact h⟩
end Go.Proofs.Ytnboppombhibbaa
namespace Go.Proofs.Ytnboppombhibbaa
open Go.RowKit Go.Shelf Go.Sort Go.Lib
set_option linter.unusedVariables false
set_option linter.unusedSimpArgs false
attribute [local go_sem] Oper.semAt_some
attribute [local go_sem ↓] Go.wp_at_zero Go.wp_at_succ
theorem preMv_more (p q : Prog) (how n k : Nat) : ∀ d, ∃ r, preMv p q how n (k + d) = preMv p q how n k ++ r := by
  intro d
  induction d with
  | zero => exact ⟨[], by simp⟩
  | succ d ih =>
    obtain ⟨r, hr⟩ := ih
    exact ⟨r ++ cutMv p q how n (k + d), by rw [← Nat.add_assoc, preMv_succ, hr, List.append_assoc]⟩
theorem got_first {p q : Prog} {how n k i : Nat} (hk : k < n) (hi : i < (cutMv p q how n k).length) (h : preMv p q how n k ++ (cutMv p q how n k).take i = []) (ha : allMv p q how = preMv p q how n n) :
    preMv p q how n k ++ (cutMv p q how n k).take (i + 1) = gotMv false (allMv p q how) := by
  obtain ⟨h1, h2⟩ := List.append_eq_nil_iff.1 h
  have hi0 : i = 0 := by
    have h3 := congrArg List.length h2
    rw [List.length_take, List.length_nil] at h3
    omega
  subst hi0
  obtain ⟨r, hr⟩ := preMv_more p q how n (k + 1) (n - (k + 1))
  rw [show k + 1 + (n - (k + 1)) = n by omega, preMv_succ, h1, List.nil_append] at hr
  rw [h1, ha, hr]
  unfold gotMv
  rw [List.nil_append, if_neg (by decide), List.take_append_of_le_length (by omega)]
theorem offV_le (p q : Prog) (m : Bool) (h : 1 ≤ per p) : offV p q m ≤ per p := by
  unfold offV
  split
  · exact Nat.le_of_lt (Nat.mod_lt _ h)
  · omega
theorem inv_leave {n0 g : Nat} {cb : Array Value} {goes : Bool} {Own : World → Nat → Prop} {Inv : List Mv → World → Prop} {pre : List Mv} {W w9 : World} (hR : Recv Try.prog n0 g cb goes Own Inv) (hI : Inv pre W) (hs : W.heap.size ≤ w9.heap.size) (hk : ∀ (k : Nat) (o : Obj), W.heap[k]? = some o → o.isCells = true → w9.heap[k]? = some o) : Inv pre w9 :=
  (hR.frame pre W w9 hI hs fun k h => by obtain ⟨o, ho, hc⟩ := hR.cells pre W k hI h; exact (hk k o ho hc).trans ho.symm).1
set_option maxRecDepth 100000 in
set_option maxHeartbeats 1000000 in
theorem pf_searchB (p q : Prog) (b c how : Nat) (g : Nat) (cb : Array Value) (goes : Bool) (Own : World → Nat → Prop) (Inv : List Mv → World → Prop) (N : Nat) (Ben : World → Prop) (wz w : World) (hK : BenOk p q b c N Own Ben) (hben : Ben w) (hp : BenchFacts p) (hq : BenchFacts q) (hhow : how ≤ 3)
    (hR : Recv Try.prog N g cb goes Own Inv) (hwz0 : Below N wz w) (hnz : N ≤ w.heap.size) (hI : Inv [] w) :
    Calls Try.prog 78 #[.pointer (some ⟨b, 0, none⟩), .pointer (some ⟨c, 0, none⟩), .int .u8 how, .func (.func g) #[] cb] w fun e w' => e = .returned (.tuple #[]) ∧ Below N wz w' ∧ Inv (gotMv goes (allMv p q how)) w' := by
  have hw : Below w.heap.size w w := Below.refl _ _
  have hb0 := hK.one _ hben
  have hc0 := hK.two _ hben
  have hB := Lib.hid hb0
  have hC := Lib.hid hc0
  have hbl := hb0.lt
  have hcl := hc0.lt
  have hwz := hw.size
  obtain ⟨_, _, -, -, -, -, -, -, -, c7, -, c9⟩ := hb0.cells
  obtain ⟨_, _, -, -, -, -, -, -, -, d7, -, d9⟩ := hc0.cells
  replace c9 : w.cell? ⟨b, 9, none⟩ = some (.int .i64 (per p)) := c9
  replace d9 : w.cell? ⟨c, 9, none⟩ = some (.int .i64 (per q)) := d9
  have hcells : ∀ W, Below w.heap.size w W → (W.cell? ⟨b, 7, none⟩ = some (.int .i64 p.ros.length) ∧ W.cell? ⟨b, 9, none⟩ = some (.int .i64 (per p))) ∧ (W.cell? ⟨c, 7, none⟩ = some (.int .i64 q.ros.length) ∧ W.cell? ⟨c, 9, none⟩ = some (.int .i64 (per q))) := fun W h =>
    ⟨⟨(h.cell (p := ⟨b, 7, none⟩) hbl).trans c7, (h.cell (p := ⟨b, 9, none⟩) hbl).trans c9⟩, (h.cell (p := ⟨c, 7, none⟩) hcl).trans d7, (h.cell (p := ⟨c, 9, none⟩) hcl).trans d9⟩
  have hpr := hp.ros1
  have hqr := hq.ros1
  have hpp := per_pos hp
  have hqp := per_pos hq
  have hc1 := (close_le hp).2.2
  have hc2 := (close_le hq).2.2
  have hcl1 : ∀ W, Below w.heap.size w W → Calls Try.prog 68 #[.pointer (some ⟨b, 0, none⟩)] W fun e w' => e = .returned (.int .i64 (closeN p)) ∧ ∃ k, w' = W.drewN k := fun W h => pf_closes b p W (hb0.below h) hp
  have hcl2 : ∀ W, Below w.heap.size w W → Calls Try.prog 68 #[.pointer (some ⟨c, 0, none⟩)] W fun e w' => e = .returned (.int .i64 (closeN q)) ∧ ∃ k, w' = W.drewN k := fun W h => pf_closes c q W (hc0.below h) hq
  clear hb0 hc0 c7 c9 d7 d9
  obtain ⟨W4, hW4, hz4, hb4, h4, h5⟩ : ∃ W4, (w.alloc (.cells #[.pointer (some ⟨b, 0, none⟩)] 84)).alloc (.cells #[.pointer (some ⟨c, 0, none⟩)] 84) = W4 ∧ W4.heap.size = w.heap.size + 2 ∧ Below w.heap.size w W4 ∧ W4.heap[w.heap.size]? = some (.cells #[.pointer (some ⟨b, 0, none⟩)] 84) ∧ W4.heap[w.heap.size + 1]? = some (.cells #[.pointer (some ⟨c, 0, none⟩)] 84) :=
    ⟨_, rfl, by simp, alc2 _ _ _, (Below.heap_alloc _ _ _ (by simp)).trans (heap_alloc_new _ _), by have h := heap_alloc_new (w.alloc (.cells #[.pointer (some ⟨b, 0, none⟩)] 84)) (.cells #[.pointer (some ⟨c, 0, none⟩)] 84); rw [World.size_alloc] at h; exact h⟩
  have hbW : Below w.heap.size w W4 := hw.trans (hb4.mono hwz)
  have t4 := cell0 h4
  have t5 := cell0 h5
  have hcells' := Lib.hid hcells
  have hcl1' := Lib.hid hcl1
  have hcl2' := Lib.hid hcl2
  have hR' := Lib.hid hR
  have hw' := Lib.hid hw
  have hI' := Lib.hid hI
  have hz4' := Lib.hid hz4
  have hb4' := Lib.hid hb4
  have h4' := Lib.hid h4
  have h5' := Lib.hid h5
  have hbW' := Lib.hid hbW
  have hpp' := Lib.hid hpp
  have hqp' := Lib.hid hqp
  have hc1' := Lib.hid hc1
  have hc2' := Lib.hid hc2
  clear hc2 hc1 hqp hpp hbW h5 h4 hb4 hz4 hI hw hR hcl2 hcl1 hcells
  refine (callsIn_wide (n := 5)).1 ?_
  refine callsIn_of_wp_marks Try.func78 rfl trivial ?_ rfl
  simp only [Try.ntmps78, List.size_toArray, List.length_cons, List.length_nil, Nat.reduceAdd, Nat.reduceSub, Array.replicate_succ, Array.replicate_zero, List.push_toArray, List.append_toArray, List.nil_append, List.cons_append]
  refine wpIn_wide.2 ?_
  go_wp2_with (first | (go_at_call 68; ((with_reducible refine (hcl1'.out _ hbW'.out).mono ?_); rintro e w' ⟨rfl, nd, rfl⟩)))
  clear hW4
  have h4 : (W4.drewN nd).heap[w.heap.size]? = _ := h4'.out
  have h5 : (W4.drewN nd).heap[w.heap.size + 1]? = _ := h5'.out
  have hz5 : (W4.drewN nd).heap.size = w.heap.size + 2 := hz4'.out
  have hb5 := below_drewN' hb4'.out nd
  have hbW5 := below_drewN' hbW'.out nd
  clear h4' h5' hz4' hb4' hbW' t4 t5
  generalize W4.drewN nd = W5 at h4 h5 hz5 hb5 hbW5 ⊢
  have t4 := cell0 h4
  have t5 := cell0 h5
  obtain ⟨⟨c7, c9⟩, ⟨d7, d9⟩⟩ := hcells'.out W5 hbW5
  have hbS : ∀ n, Below w.heap.size w (W5.drewN n) := fun n => below_drewN' hbW5 n
  obtain ⟨X1, hX1⟩ : ∃ X, ((p.ros.length : Int) != (q.ros.length : Int)) = X := ⟨_, rfl⟩
  obtain ⟨X2, hX2⟩ : ∃ X, ((per p : Int) != (per q : Int)) = X := ⟨_, rfl⟩
  obtain ⟨X3, hX3⟩ : ∃ X, ((closeN p : Int) != (closeN q : Int)) = X := ⟨_, rfl⟩
  have hearly : (X1 = true ∨ X2 = true ∨ X3 = true) → ∀ W, Below w.heap.size w W → Inv (gotMv goes (allMv p q how)) W := by
    intro h W hbw
    have hl : likeB p q = false := by
      unfold likeB
      rcases h with rfl | rfl | rfl
      · simp at hX1; simp; intro e; exact absurd (by exact_mod_cast e) hX1
      · simp at hX2; simp; intro _ e; exact absurd (by exact_mod_cast e) hX2
      · simp at hX3; simp; intro _ _ e; exact absurd (by exact_mod_cast e) hX3
    have ha : allMv p q how = [] := by unfold allMv; rw [hl]; rfl
    rw [ha, gotMv_nil]
    exact (hR'.out.frame [] w W hI'.out hbw.size (fun k hk => hbw.block k (hR'.out.own [] w k hI'.out hk).2)).1
  have h4' := Lib.hid h4
  have h5' := Lib.hid h5
  have hz5' := Lib.hid hz5
  have hb5' := Lib.hid hb5
  have hbW5' := Lib.hid hbW5
  have hbS' := Lib.hid hbS
  have hearly' := Lib.hid hearly
  clear hearly hbS hbW5 hb5 hz5 h5 h4
  cases X1 with
  | true =>
    go_wp2
    go_quiet (fail)
    have hI2 := hearly'.out (by simp) (W5.drewN nq) (below_drewN' hb5'.out nq)
    have hbel := hbS'.out nq
    generalize W5.drewN nq = W6 at hI2 hbel ⊢
    clear t4 t5 c7 c9 d7 d9
    go_wp2
    exact ⟨_, results_none rfl _ _ _, rfl, hwz0.trans (hbel.mono hnz), hI2⟩
  | false =>
    cases X2 with
    | true =>
      go_wp2
      go_quiet (fail)
      have hI2 := hearly'.out (by simp) (W5.drewN nq) (below_drewN' hb5'.out nq)
      have hbel := hbS'.out nq
      generalize W5.drewN nq = W6 at hI2 hbel ⊢
      clear t4 t5 c7 c9 d7 d9
      go_wp2
      exact ⟨_, results_none rfl _ _ _, rfl, hwz0.trans (hbel.mono hnz), hI2⟩
    | false =>
      cases X3 with
      | true =>
        go_wp2
        go_quiet (first | (go_at_call 68; with_reducible exact Calls.quiet_of (hcl2'.out _ (hbS'.out _))))
        have hI2 := hearly'.out (by simp) (W5.drewN nq) (below_drewN' hb5'.out nq)
        have hbel := hbS'.out nq
        generalize W5.drewN nq = W6 at hI2 hbel ⊢
        clear t4 t5 c7 c9 d7 d9
        go_wp2
        exact ⟨_, results_none rfl _ _ _, rfl, hwz0.trans (hbel.mono hnz), hI2⟩
      | false =>
        go_wp2
        go_quiet (first | (go_at_call 68; with_reducible exact Calls.quiet_of (hcl2'.out _ (hbS'.out _))))
        have hlen : p.ros.length = q.ros.length := by simp at hX1; exact_mod_cast hX1
        have hper : per p = per q := by simp at hX2; exact_mod_cast hX2
        have hclo : closeN p = closeN q := by simp at hX3; exact_mod_cast hX3
        have hof : ∀ (m : Bool) W, Below w.heap.size w W → Calls Try.prog 98 #[.pointer (some ⟨b, 0, none⟩), .pointer (some ⟨c, 0, none⟩), .bool m] W fun e w' => e = .returned (.tuple #[.int .i64 (offV p q m : Nat), .bool (offB p q m)]) ∧ Below W.heap.size W w' := fun m W h => pf_offset b c p q m W (hB.out.below h) (hC.out.below h) hp hq hlen
        have h4 : (W5.drewN nq).heap[w.heap.size]? = _ := h4'.out
        have h5 : (W5.drewN nq).heap[w.heap.size + 1]? = _ := h5'.out
        have hz6 : (W5.drewN nq).heap.size = w.heap.size + 2 := hz5'.out
        have hb6 := below_drewN' hb5'.out nq
        have hbW6 := hbS'.out nq
        clear h4' h5' hz5' hb5' hbW5' hbS' hearly' t4 t5 c7 c9 d7 d9
        generalize W5.drewN nq = W6 at h4 h5 hz6 hb6 hbW6 ⊢
        have t4 := cell0 h4
        have t5 := cell0 h5
        have hX1' := Lib.hid hX1
        have hX2' := Lib.hid hX2
        have hX3' := Lib.hid hX3
        have hlen' := Lib.hid hlen
        have hper' := Lib.hid hper
        have hclo' := Lib.hid hclo
        have hof' := Lib.hid hof
        have h4' := Lib.hid h4
        have h5' := Lib.hid h5
        have hz6' := Lib.hid hz6
        have hb6' := Lib.hid hb6
        have hbW6' := Lib.hid hbW6
        clear hbW6 hb6 hz6 h5 h4 hof hclo hper hlen hX3 hX2 hX1
        go_wp2_with (first | (go_at_call 98; ((with_reducible refine (hof'.out false _ hbW6'.out).mono ?_); rintro e w' ⟨rfl, hb⟩; have hb8 := hb.alloc hb.size (.cells #[.int .i64 (offV p q false : Nat)] 3); have h9 := alc_at w' (.cells #[.int .i64 (offV p q false : Nat)] 3); have hz9 := hb.size; have e4 := cell0 ((hb8.block _ (by have := hz6'.out; omega)).trans h4'.out); have e5 := cell0 ((hb8.block _ (by have := hz6'.out; omega)).trans h5'.out); clear hb t4 t5)))
        have hz8 : (w'.alloc (.cells #[.int .i64 (offV p q false : Nat)] 3)).heap.size = w'.heap.size + 1 := by simp
        generalize w'.alloc (.cells #[.int .i64 (offV p q false : Nat)] 3) = W8 at hb8 h9 e4 e5 hz8 ⊢
        generalize w'.heap.size = B9 at h9 hz9 hz8 ⊢
        clear w'
        have hbW8 := hbW6'.out.trans (hb8.mono hbW6'.out.size)
        have hb8' := Lib.hid hb8
        have h9' := Lib.hid h9
        have hz8' := Lib.hid hz8
        have hz9' := Lib.hid hz9
        have hbW8' := Lib.hid hbW8
        clear hbW8 hz9 hz8 h9 hb8
        clear e4 e5
        go_wp2_with (first | (go_at_call 98; ((with_reducible refine (hof'.out true _ hbW8'.out).mono ?_); rintro e w' ⟨rfl, hb⟩)))
        have hb10 := hb.alloc hb.size (.cells #[.int .i64 (offV p q true : Nat)] 3)
        have h11 := alc_at w' (.cells #[.int .i64 (offV p q true : Nat)] 3)
        have hz11 := hb.size
        have hz10 : (w'.alloc (.cells #[.int .i64 (offV p q true : Nat)] 3)).heap.size = w'.heap.size + 1 := by simp
        clear hb
        generalize w'.alloc (.cells #[.int .i64 (offV p q true : Nat)] 3) = W10 at hb10 h11 hz10 ⊢
        generalize w'.heap.size = B11 at h11 hz11 hz10 ⊢
        clear w'
        have hz8 := hz8'.out
        have hz9 := hz9'.out
        have hz6 := hz6'.out
        have hb810 : Below W6.heap.size W6 W10 := hb8'.out.trans (hb10.mono (by omega))
        have hbw10 : Below w.heap.size w W10 := hb6'.out.trans (hb810.mono (by omega))
        have hO10 : ∀ k, Own W10 k → Own w k := (hR'.out.frame [] w W10 hI'.out hbw10.size (fun k hk => hbw10.block k (hR'.out.own [] w k hI'.out hk).2)).2
        have hI10 : Inv [] W10 := (hR'.out.frame [] w W10 hI'.out hbw10.size (fun k hk => hbw10.block k (hR'.out.own [] w k hI'.out hk).2)).1
        have hOlt : ∀ k, Own W10 k → k < w.heap.size := fun k hk => (hR'.out.own [] w k hI'.out (hO10 k hk)).2
        obtain ⟨B4, hB4⟩ : ∃ B, w.heap.size = B := ⟨_, rfl⟩
        rw [hB4] at hz6 hOlt
        have h4 := h4'.out
        have h5 := h5'.out
        rw [hB4] at h4 h5
        have hst : SStB 84 3 N wz Ben B4 (B4 + 1) B9 B11 b c (offV p q false) (offV p q true) Own Inv [] W10 :=
          ⟨hwz0.trans (hbw10.mono hnz), Nat.le_trans hnz hbw10.size, hK.next w W10 hben hbw10, hI10, ⟨(hb810.block _ (by omega)).trans h4, fun h => by have := hOlt _ h; omega⟩, ⟨(hb810.block _ (by omega)).trans h5, fun h => by have := hOlt _ h; omega⟩, ⟨(hb10.block _ (by omega)).trans h9'.out, fun h => by have := hOlt _ h; omega⟩, ⟨h11, fun h => by have := hOlt _ h; omega⟩⟩
        have hbB : b < B4 := by omega
        have hcB : c < B4 := by omega
        rw [hB4]
        clear hb10 h11 hz11 hz10 hz8 hz9 hz6 hb810 hbw10 hO10 hI10 hOlt h4 h5 hb8' h9' hz8' hz9' hbW8' h4' h5' hz6' hb6' hbW6' hof' hcl1' hcl2'
        have hB4' := Lib.hid hB4
        clear hB4
        have hlike : allMv p q how = preMv p q how (closeN p) (closeN p) := by
          have hl : likeB p q = true := by unfold likeB; simp [hlen'.out, hper'.out, hclo'.out]
          unfold allMv
          rw [if_pos hl]
        have hob1 : offV p q false ≤ 1000000 := by have h1 := offV_le p q false hpp'.out.1; have h2 := hpp'.out.2.1; omega
        have hob2 : offV p q true ≤ 1000000 := by have h1 := offV_le p q true hpp'.out.1; have h2 := hpp'.out.2.1; omega
        refine wp_loop (fun a wr => ∃ k, k ≤ closeN p ∧ SRel p q goes Own Inv N Ben wz b c (offV p q false) (offV p q true) how g cb (offB p q false) (offB p q true) (closeN p) B4 (B4 + 1) B9 B11 k a wr) (fun a _ => closeN p - (intOf (a.tmps.getD 65 undef)).toNat) ?_ ?_
        · exact ⟨0, Nat.zero_le _, _, [], 0, rfl, rfl, frame_mk _ _ (by kernel_rfl), hst, trivial, fun _ => rfl⟩
        · clear hst
          rintro a wr ⟨k, hk, hS⟩
          have hmu : ∀ k a W, SRel p q goes Own Inv N Ben wz b c (offV p q false) (offV p q true) how g cb (offB p q false) (offB p q true) (closeN p) B4 (B4 + 1) B9 B11 k a W → (intOf (a.tmps.getD 65 undef)).toNat = k := by
            rintro k a W ⟨t, ds, iz, rfl, hiz, ⟨u, rfl⟩, _⟩
            show (intOf (Value.int .i64 iz)).toNat = k
            rw [hiz]
            simp [intOf]
          refine search_round p q hp hq goes Own Inv N Ben wz b c (offV p q false) (offV p q true) how g cb (offB p q false) (offB p q true) (closeN p) B4 (B4 + 1) B9 B11 k a wr hR'.out hK hc1'.out.2 hc1'.out.1 hob1 hob2 rfl rfl rfl rfl hhow hk hS _ ?_ ?_ ?_
          · intro hlt a2 w2 h2
            refine ⟨⟨k + 1, by omega, h2⟩, ?_⟩
            rw [hmu _ _ _ h2, hmu _ _ _ hS]
            omega
          · rintro hke a2 w2 ⟨t2, ds2, iz2, rfl, -, ⟨u2, rfl⟩, hS2, hom2, hgo2⟩
            have hfin : gotMv goes (allMv p q how) = preMv p q how (closeN p) (closeN p) := by
              rw [hlike]
              cases goes with
              | true => rfl
              | false => rw [hgo2 rfl]; rfl
            clear hS hmu
            have hlike' := Lib.hid hlike
            have hfin' := Lib.hid hfin
            have hS2' := Lib.hid hS2
            have hom2' := Lib.hid hom2
            have hgo2' := Lib.hid hgo2
            clear hgo2 hom2 hS2 hfin hlike
            go_wp2
            refine leaves_marks N ds2 w2 hom2'.out.marks fun w9 hb hkeep => ?_
            exact ⟨_, results_none rfl _ _ _, rfl, hS2'.out.below.trans hb, by rw [hfin'.out]; exact inv_leave hR'.out hS2'.out.inv hb.size hkeep⟩
          · rintro rfl hlt i t' ds2 w2 hi h1 h2 h3
            have hfin := got_first hlt hi h1 hlike
            rw [hfin] at h2
            clear hS hmu
            have hlike' := Lib.hid hlike
            have hfin' := Lib.hid hfin
            have h2' := Lib.hid h2
            have h3' := Lib.hid h3
            have h1' := Lib.hid h1
            clear h1 h3 h2 hfin hlike
            go_wp2
            refine leaves_marks N ds2 w2 h3'.out.marks fun w9 hb hkeep => ?_
            exact ⟨_, results_none rfl _ _ _, rfl, h2'.out.below.trans hb, inv_leave hR'.out h2'.out.inv hb.size hkeep⟩
theorem pf_search (p q : Prog) (b c how : Nat) (g : Nat) (cb : Array Value) (goes : Bool) (Own : World → Nat → Prop) (Inv : List Mv → World → Prop) (w0 w : World) (hb0 : IsBench w0 b p) (hc0 : IsBench w0 c q) (hp : BenchFacts p) (hq : BenchFacts q) (hhow : how ≤ 3)
    (hR : Recv Try.prog w0.heap.size g cb goes Own Inv) (hw : Below w0.heap.size w0 w) (hI : Inv [] w) :
    Calls Try.prog 78 #[.pointer (some ⟨b, 0, none⟩), .pointer (some ⟨c, 0, none⟩), .int .u8 how, .func (.func g) #[] cb] w fun e w' => e = .returned (.tuple #[]) ∧ Below w0.heap.size w0 w' ∧ Inv (gotMv goes (allMv p q how)) w' :=
  pf_searchB p q b c how g cb goes Own Inv w0.heap.size (fun W => Below w0.heap.size w0 W) w0 w ⟨fun W h => hb0.below h, fun W h => hc0.below h, fun W W' h hb => h.trans (hb.mono h.size), fun W W' h hb _ => h.trans hb⟩ hw hp hq hhow hR hw hw.size hI
end Go.Proofs.Ytnboppombhibbaa
