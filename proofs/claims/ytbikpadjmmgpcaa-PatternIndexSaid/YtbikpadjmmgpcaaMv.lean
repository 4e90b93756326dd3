/- Moves; slices.SortStableFunc at short lists of them. Rows of moves that a function owns, and their sorting. What bench.search finds, as a plain function; who receives it. -/
import Derived.Test.YtbikpadjmmgpcaaOffset
import Derived.Shelf.SlSortCmp.InsertionK
import Derived.LoopN
namespace Go.Proofs.Ytbikpadjmmgpcaa
open Go.RowKit Go.Shelf Go.Sort Go.Lib
set_option linter.unusedVariables false
set_option linter.unusedSimpArgs false
structure Mv where
  cuts : Int
  turn : Int
  mirror : Bool
  back : Bool
  deriving DecidableEq, Inhabited
def Mv.enc (m : Mv) : List Value := [.int .i64 m.cuts, .int .i64 m.turn, .bool m.mirror, .bool m.back]
def Mv.val (m : Mv) : Value := .agg #[.int .i64 m.cuts, .int .i64 m.turn, .bool m.mirror, .bool m.back]
def cmpMv (x y : Mv) : Int := wrap64 (x.turn - y.turn)
def sortRen : Ren := ⟨fun x => if x = 20 then 92 else x, fun x => if x = 22 then 50 else if x = 24 then 54 else if x = 25 then 107 else if x = 0 then 0 else if x = 3 then 3 else if x = 4 then 4 else x, fun x => x⟩
theorem sortLay : SlLaysF0.n20 Try.prog sortRen where
  mixed := by kernel_rfl
  f20 := ⟨(Try.f92).name, by kernel_rfl, by kernel_rfl⟩
  t0 := by kernel_rfl
  a0 := fun _ => by kernel_rfl
  z0 := fun _ => by kernel_rfl
  v0 := fun _ => by kernel_rfl
  t3 := by kernel_rfl
  a3 := fun _ => by kernel_rfl
  z3 := fun _ => by kernel_rfl
  v3 := fun _ => by kernel_rfl
  t4 := by kernel_rfl
  a4 := fun _ => by kernel_rfl
  z4 := fun _ => by kernel_rfl
  v4 := fun _ => by kernel_rfl
  t22 := by kernel_rfl
  a22 := fun _ => by kernel_rfl
  z22 := fun _ => by kernel_rfl
  v22 := fun _ => by kernel_rfl
  t25 := by kernel_rfl
  a25 := fun _ => by kernel_rfl
  z25 := fun _ => by kernel_rfl
  v25 := fun _ => by kernel_rfl
theorem cmp_lays (x y : Mv) (W : World) :
    Calls Try.prog 63 #[.agg x.enc.toArray, .agg y.enc.toArray] W fun e w' => e = .returned (.int .i64 (cmpMv x y)) ∧ ∃ q os', w' = grow (W.drewN q) os' := by
  obtain ⟨x1, x2, x3, x4⟩ := x
  obtain ⟨y1, y2, y3, y4⟩ := y
  show Calls _ _ #[.agg #[.int .i64 x1, .int .i64 x2, .bool x3, .bool x4], .agg #[.int .i64 y1, .int .i64 y2, .bool y3, .bool y4]] W _
  go_enter Try.func63, Try.ntmps63
  go_wp2
  go_ret
  exact ⟨rfl, 0, #[_, _], by rw [alloc_eq_grow, alloc_eq_grow, grow_grow]; rfl⟩
theorem pf_insertion (blk cap : Nat) (d : Array Mv) (w : World) (hH : HoldsK Mv.enc 4 w blk 0 d) (hblk : blk < w.heap.size) (hsz : d.size ≤ 1000) :
    Calls Try.prog 92 #[.slice (some ⟨blk, 0, none⟩) d.size cap, .int .i64 0, .int .i64 d.size, .func (.func 63) #[] #[]] w fun e w' =>
      e = .returned (.tuple #[]) ∧ ∃ n os, w' = sortWorldK Mv.enc 4 w blk 0 n (Sort.insertionSort (ltOf cmpMv) d 0 d.size) os := by
  have eg : ∀ args w, (callFunc 63 args).run Try.prog w = .ok (.enter 63 args) w := enters_of Try.func63 (by kernel_rfl) rfl
  exact AnyQ.insertionSortCmpFunc sortLay 4 (fun _ => by kernel_rfl) (fun _ => by kernel_rfl) Mv.enc (fun _ => rfl) (fun x v hv => by simp [Mv.enc] at hv; rcases hv with rfl | rfl | rfl | rfl <;> rfl) cmpMv 63 #[] blk 0 cap 0 d.size d w eg (fun _ _ _ _ x y => cmp_lays x y _) hH hblk (Nat.zero_le _) (Nat.le_refl _) (by omega)
theorem pf_SortStable (blk cap : Nat) (d : Array Mv) (w : World) (hH : HoldsK Mv.enc 4 w blk 0 d) (hblk : blk < w.heap.size) (hsz : d.size ≤ 19) :
    Calls Try.prog 62 #[.slice (some ⟨blk, 0, none⟩) d.size cap, .func (.func 63) #[] #[]] w fun e w' =>
      e = .returned (.tuple #[]) ∧ ∃ n os, w' = sortWorldK Mv.enc 4 w blk 0 n (Sort.insertionSort (ltOf cmpMv) d 0 d.size) os := by
  have hcon := pf_insertion blk cap d w hH hblk (by omega)
  generalize Sort.insertionSort (ltOf cmpMv) d 0 d.size = r at hcon ⊢
  generalize d.size = n at hcon hsz ⊢
  have hst : Calls Try.prog 80 #[.slice (some ⟨blk, 0, none⟩) n cap, .int .i64 n, .func (.func 63) #[] #[]] w fun e w' =>
      e = .returned (.tuple #[]) ∧ ∃ n os, w' = sortWorldK Mv.enc 4 w blk 0 n r os := by
    have hcon' := Lib.hid hcon
    clear hcon
    clear hH
    go_enter Try.func80, Try.ntmps80
    have hn20 : (n : Int) < 20 := by omega
    go_wp2
    refine wp_loop_rounds 1 ?_
    rw [rounds_succ]
    go_wp2_with (first | (go_at_call 92; ((with_reducible refine (hcon'.out).mono ?_); rintro e w' ⟨rfl, hw⟩)))
    refine wp_loop_rounds 1 ?_
    rw [rounds_succ]
    go_wp2
    go_end0
    exact ⟨rfl, hw⟩
  have hst' := Lib.hid hst
  clear hst
  clear hcon hH
  go_enter Try.func62, Try.ntmps62
  go_wp2_with (first | (go_at_call 80; ((with_reducible refine (hst'.out).mono ?_); rintro e w' ⟨rfl, hw⟩)))
  go_end0
  exact ⟨rfl, hw⟩
end Go.Proofs.Ytbikpadjmmgpcaa
namespace Go.Proofs.Ytbikpadjmmgpcaa
open Go.RowKit Go.Shelf Go.Sort Go.Lib
set_option linter.unusedVariables false
set_option linter.unusedSimpArgs false
def mvCells (L : List Mv) : List Value := L.flatMap Mv.enc
theorem mvCells_length (L : List Mv) : (mvCells L).length = L.length * 4 := by
  unfold mvCells
  induction L with
  | nil => rfl
  | cons x xs ih => rw [List.flatMap_cons, List.length_append, ih]; simp [Mv.enc]; omega
theorem mvCells_get (L : List Mv) : ∀ t, t < L.length * 4 → (mvCells L)[t]? = some ((Mv.enc (L[t / 4]!))[t % 4]!) := by
  unfold mvCells
  induction L with
  | nil => intro t h; simp at h
  | cons x xs ih =>
    intro t h
    rw [List.flatMap_cons]
    by_cases ht : t < 4
    · rw [List.getElem?_append_left (by simpa [Mv.enc] using ht)]
      have e1 : t / 4 = 0 := by omega
      have e2 : t % 4 = t := by omega
      rw [e1, e2]
      simp only [List.getElem!_cons_zero]
      rw [List.getElem?_eq_getElem (by simpa [Mv.enc] using ht), getElem!_pos _ t (by simpa [Mv.enc] using ht)]
    · rw [List.getElem?_append_right (by simp [Mv.enc]; omega)]
      have e0 : x.enc.length = 4 := rfl
      rw [e0, ih (t - 4) (by simp at h; omega)]
      have e1 : t / 4 = (t - 4) / 4 + 1 := by omega
      have e2 : (t - 4) % 4 = t % 4 := by omega
      rw [e1, e2]
      simp
theorem flat_mv (L : List Mv) : (flatK Mv.enc 4 L.toArray).toList = mvCells L := by
  apply List.ext_getElem?
  intro t
  by_cases h : t < L.length * 4
  · rw [mvCells_get L t h]
    have hs : t < (flatK Mv.enc 4 L.toArray).toList.length := by simp; omega
    rw [List.getElem?_eq_getElem hs]
    have := get_flatK Mv.enc 4 L.toArray t (by simpa using h)
    rw [getElem!_pos _ t (by simp; omega)] at this
    simp only [Array.getElem_toList]
    rw [this]
    simp
  · rw [List.getElem?_eq_none (by simp; omega), List.getElem?_eq_none (by rw [mvCells_length]; omega)]
theorem own_holds {W : World} {base e g c : Nat} {L : List Mv} (h : W.ownsRow base e 4 (.slice (some ⟨g, 0, none⟩) L.length c) L.length (mvCells L)) : HoldsK Mv.enc 4 W g 0 L.toArray := by
  intro j hj
  have hj' : j < L.length * 4 := by simpa using hj
  rw [Nat.zero_add]
  refine ⟨?_, h.frozenAt j⟩
  rw [h.cellAt j hj']
  rw [mvCells_get L j hj', get_flatK Mv.enc 4 L.toArray j (by simpa using hj')]
  simp
theorem own_sorted {W : World} {base e g c : Nat} {L : List Mv} (h : W.ownsRow base e 4 (.slice (some ⟨g, 0, none⟩) L.length c) L.length (mvCells L)) (d : Array Mv) (hd : d.size = L.length) (n : Nat) (os : Array Obj) :
    (sortWorldK Mv.enc 4 W g 0 n d os).ownsRow base e 4 (.slice (some ⟨g, 0, none⟩) L.length c) L.length (mvCells d.toList) ∧ W.heap.size ≤ (sortWorldK Mv.enc 4 W g 0 n d os).heap.size ∧
      ∀ k, k < W.heap.size → k ≠ g → (sortWorldK Mv.enc 4 W g 0 n d os).heap[k]? = W.heap[k]? := by
  have hz : (putRowK Mv.enc 4 (Sort.ahead W n) g 0 d).heap.size = W.heap.size := by rw [size_putRowK]; rfl
  refine ⟨⟨by rw [mvCells_length]; simp [hd], ?_⟩, ?_, ?_⟩
  · rcases h.2 with ⟨h', _⟩ | ⟨g', cap, cur, hv, hb, hh, hnc, hcm, hs, htake⟩
    · simp at h'
    · injection hv with h1 _ h3
      injection h1 with h1
      injection h1 with h1
      subst h1 h3
      refine .inr ⟨g, c, putCells id 0 (flatK Mv.enc 4 d) cur, rfl, hb, ?_, hnc, hcm, by simp [putCells, hs], ?_⟩
      · unfold sortWorldK
        rw [heap_grow_old _ _ (by rw [hz]; exact (Array.getElem?_eq_some_iff.1 hh).1)]
        show ((Sort.ahead W n).heap.modify g _)[g]? = _
        rw [Array.getElem?_modify, if_pos rfl]
        show Option.map _ (W.heap[g]?) = _
        rw [hh]
        rfl
      · have hfl : (flatK Mv.enc 4 d).toList = mvCells d.toList := by have := flat_mv d.toList; simpa using this
        rw [← hfl]
        apply List.ext_getElem?
        intro t
        rw [List.getElem?_take]
        by_cases ht : t < L.length * 4
        · rw [if_pos ht]
          have htc : t < cur.size := by rw [hs]; exact Nat.lt_of_lt_of_le ht (Nat.mul_le_mul_right 4 hnc)
          have htd : t < d.size * 4 := by rw [hd]; exact ht
          simp only [Array.getElem?_toList]
          unfold putCells
          rw [Array.getElem?_mapIdx, Array.getElem?_eq_getElem htc, Option.map_some]
          rw [if_pos ⟨Nat.zero_le _, by simp; omega⟩, Nat.sub_zero]
          rw [Array.getElem?_eq_getElem (by simp; omega), getElem!_pos _ t (by simp; omega)]
          rfl
        · rw [if_neg ht, List.getElem?_eq_none (by simp [hd]; omega)]
  · unfold sortWorldK
    rw [size_grow, hz]
    omega
  · intro k hk hkg
    unfold sortWorldK
    rw [heap_grow_old _ _ (by rw [hz]; exact hk)]
    show ((Sort.ahead W n).heap.modify g _)[k]? = _
    rw [Array.getElem?_modify, if_neg (Ne.symm hkg)]
    rfl
end Go.Proofs.Ytbikpadjmmgpcaa
namespace Go.Proofs.Ytbikpadjmmgpcaa
open Go.RowKit Go.Shelf Go.Sort Go.Lib
set_option linter.unusedVariables false
set_option linter.unusedSimpArgs false
def turnAt (p q : Prog) (k : Int) (mi ba : Bool) (j : Nat) : Int :=
  ((if mi then (offV p q true : Int) + phaseI p j else (offV p q false : Int) - phaseI p j) + phaseI q (if ba then k - j else k + j)) % (per p : Int)
/-- The four kinds of moves, in order: mirrored, backwards. -/
def kindAt : Nat → Bool × Bool
  | 0 => (false, false)
  | 1 => (false, true)
  | 2 => (true, false)
  | _ => (true, true)
def barB (p q : Prog) (how : Nat) (mi ba : Bool) : Bool := ba && (how / 2 % 2 == 0) || mi && (how % 2 == 0) || mi && !offB p q true || !mi && !offB p q false
def fitsB (p q : Prog) (n : Nat) (k : Int) (mi ba : Bool) : Bool := (List.range n).all fun j => turnAt p q k mi ba j == turnAt p q k mi ba 0
def oneMv (p q : Prog) (how n : Nat) (k : Int) (mb : Bool × Bool) : Option Mv := if barB p q how mb.1 mb.2 then none else if fitsB p q n k mb.1 mb.2 then some ⟨k, turnAt p q k mb.1 mb.2 0, mb.1, mb.2⟩ else none
/-- What the first i kinds give. -/
def kindsMv (p q : Prog) (how n : Nat) (k : Int) (i : Nat) : List Mv := (List.range i).filterMap fun a => oneMv p q how n k (kindAt a)
def sortMv (l : List Mv) : List Mv := (Sort.insertionSort (ltOf cmpMv) l.toArray 0 l.length).toList
def cutMv (p q : Prog) (how n : Nat) (k : Nat) : List Mv := sortMv (kindsMv p q how n k 4)
/-- What the first k cuts give. -/
def preMv (p q : Prog) (how n : Nat) (k : Nat) : List Mv := (List.range k).flatMap fun a => cutMv p q how n a
def likeB (p q : Prog) : Bool := p.ros.length == q.ros.length && per p == per q && closeN p == closeN q
def allMv (p q : Prog) (how : Nat) : List Mv := if likeB p q then preMv p q how (closeN p) (closeN p) else []
/-- What a receiver gets: all, or the first alone. -/
def gotMv (goes : Bool) (l : List Mv) : List Mv := if goes then l else l.take 1
theorem gotMv_nil (goes : Bool) : gotMv goes [] = [] := by cases goes <;> rfl
theorem kindsMv_succ (p q : Prog) (how n : Nat) (k : Int) (i : Nat) : kindsMv p q how n k (i + 1) = kindsMv p q how n k i ++ (oneMv p q how n k (kindAt i)).toList := by
  unfold kindsMv
  rw [List.range_succ, List.filterMap_append]
  congr 1
theorem kindsMv_le (p q : Prog) (how n : Nat) (k : Int) (i : Nat) : (kindsMv p q how n k i).length ≤ i := by
  unfold kindsMv
  exact Nat.le_trans (List.length_filterMap_le ..) (by simp)
theorem preMv_succ (p q : Prog) (how n k : Nat) : preMv p q how n (k + 1) = preMv p q how n k ++ cutMv p q how n k := by
  unfold preMv
  rw [List.range_succ, List.flatMap_append]
  simp
theorem size_swp (d : Array Mv) (i j : Nat) : (swp d i j).size = d.size := by simp [swp]
theorem size_insInner (lt : Mv → Mv → Bool) (a : Nat) : ∀ (j : Nat) (d : Array Mv), (insInner lt a j d).size = d.size
  | 0, d => rfl
  | j + 1, d => by
    unfold insInner
    split
    · rw [size_insInner lt a j, size_swp]
    · rfl
theorem size_insOuter (lt : Mv → Mv → Bool) (a b i : Nat) (d : Array Mv) : (insOuter lt a b i d).size = d.size := by
  unfold insOuter
  split
  · rw [size_insOuter lt a b (i + 1), size_insInner]
  · rfl
termination_by b - i
theorem sortMv_length (l : List Mv) : (sortMv l).length = l.length := by
  unfold sortMv Sort.insertionSort
  rw [Array.length_toList, size_insOuter]
  simp
/-- Changes between two worlds touch what is owned alone. -/
def Saves (Own : World → Nat → Prop) (W W' : World) : Prop := ∀ k, k < W.heap.size → ¬ Own W k → W'.heap[k]? = W.heap[k]?
/-- A function value (g, bound to cb) that receives moves: Inv says which it has received; Own, which blocks are its own. -/
structure Recv (P : Program) (n0 g : Nat) (cb : Array Value) (goes : Bool) (Own : World → Nat → Prop) (Inv : List Mv → World → Prop) : Prop where
  enters : ∀ args w, (callFunc g args).run P w = .ok (.enter g args) w
  own : ∀ pre W k, Inv pre W → Own W k → n0 ≤ k ∧ k < W.heap.size
  cells : ∀ pre W k, Inv pre W → Own W k → ∃ o : Obj, W.heap[k]? = some o ∧ o.isCells = true
  frame : ∀ pre W W', Inv pre W → W.heap.size ≤ W'.heap.size → (∀ k, Own W k → W'.heap[k]? = W.heap[k]?) → Inv pre W' ∧ ∀ k, Own W' k → Own W k
  call : ∀ pre x W, Inv pre W → pre.length ≤ 10000 → Calls P g (#[x.val] ++ cb) W fun e w' => e = .returned (.bool goes) ∧ Inv (pre ++ [x]) w' ∧ Below n0 W w' ∧ Saves Own W w' ∧ ∀ k, Own w' k → Own W k ∨ W.heap.size ≤ k
/-- The state of search between two of its steps. -/
structure SSt (T84 T3 : TypeId) (w0 : World) (B4 B5 B9 B11 b c : Nat) (s o : Nat) (Own : World → Nat → Prop) (Inv : List Mv → World → Prop) (pre : List Mv) (W : World) : Prop where
  below : Below w0.heap.size w0 W
  inv : Inv pre W
  b4 : W.heap[B4]? = some (.cells #[.pointer (some ⟨b, 0, none⟩)] T84) ∧ ¬ Own W B4
  b5 : W.heap[B5]? = some (.cells #[.pointer (some ⟨c, 0, none⟩)] T84) ∧ ¬ Own W B5
  b9 : W.heap[B9]? = some (.cells #[.int .i64 (s : Int)] T3) ∧ ¬ Own W B9
  b11 : W.heap[B11]? = some (.cells #[.int .i64 (o : Int)] T3) ∧ ¬ Own W B11
section
variable {P : Program} {n0 g : Nat} {cb : Array Value} {goes : Bool} {T84 T3 : TypeId} {w0 : World} {B4 B5 B9 B11 b c s o : Nat} {Own : World → Nat → Prop} {Inv : List Mv → World → Prop} {pre : List Mv} {W W' : World}
theorem SSt.next (hR : Recv P w0.heap.size g cb goes Own Inv) (h : SSt T84 T3 w0 B4 B5 B9 B11 b c s o Own Inv pre W) (hb : Below W.heap.size W W') : SSt T84 T3 w0 B4 B5 B9 B11 b c s o Own Inv pre W' := by
  have hf := hR.frame pre W W' h.inv hb.size (fun k hk => hb.block k (hR.own pre W k h.inv hk).2)
  have hl : ∀ {B : Nat} {x : Obj}, W.heap[B]? = some x → W'.heap[B]? = some x := fun hx => (hb.block _ (Array.getElem?_eq_some_iff.1 hx).1).trans hx
  exact ⟨h.below.trans (hb.mono h.below.size), hf.1, ⟨hl h.b4.1, fun hk => h.b4.2 (hf.2 _ hk)⟩, ⟨hl h.b5.1, fun hk => h.b5.2 (hf.2 _ hk)⟩, ⟨hl h.b9.1, fun hk => h.b9.2 (hf.2 _ hk)⟩, ⟨hl h.b11.1, fun hk => h.b11.2 (hf.2 _ hk)⟩⟩
theorem SSt.step (h : SSt T84 T3 w0 B4 B5 B9 B11 b c s o Own Inv pre W) {x : Mv} (hi : Inv (pre ++ [x]) W') (hb : Below w0.heap.size W W') (hs : Saves Own W W') (ho : ∀ k, Own W' k → Own W k ∨ W.heap.size ≤ k) : SSt T84 T3 w0 B4 B5 B9 B11 b c s o Own Inv (pre ++ [x]) W' := by
  have hl : ∀ {B : Nat} {x : Obj}, W.heap[B]? = some x ∧ ¬ Own W B → W'.heap[B]? = some x ∧ ¬ Own W' B := fun {B x} hx => by
    have hlt := (Array.getElem?_eq_some_iff.1 hx.1).1
    exact ⟨(hs _ hlt hx.2).trans hx.1, fun hk => (ho _ hk).elim hx.2 (fun hk => by omega)⟩
  exact ⟨h.below.trans hb, hi, hl h.b4, hl h.b5, hl h.b9, hl h.b11⟩
end
/-- The marks that the loops over functions have left on the activation: none is the receiver's own. -/
def OMarks (Own : World → Nat → Prop) (B : Nat) (W : World) : List Deferred → Prop
  | [] => True
  | d :: ds => (∃ D, d = { target := .collected D, args := #[] } ∧ B ≤ D ∧ W.heap[D]? = some (.deferred (some [])) ∧ ¬ Own W D ∧ ∀ d' ∈ ds, d' ≠ d) ∧ OMarks Own B W ds
theorem OMarks.keep {Own : World → Nat → Prop} {B : Nat} {W W' : World} : ∀ {ds : List Deferred}, OMarks Own B W ds → (∀ D, W.heap[D]? = some (.deferred (some [])) → ¬ Own W D → W'.heap[D]? = some (.deferred (some [])) ∧ ¬ Own W' D) → OMarks Own B W' ds
  | [], _, _ => trivial
  | d :: ds, ⟨⟨D, hd, hB, hD, hO, hne⟩, hr⟩, hk => ⟨⟨D, hd, hB, (hk D hD hO).1, (hk D hD hO).2, hne⟩, OMarks.keep hr hk⟩
theorem OMarks.marks {Own : World → Nat → Prop} {B : Nat} {W : World} : ∀ {ds : List Deferred}, OMarks Own B W ds → Marks B W ds
  | [], _ => trivial
  | d :: ds, ⟨⟨D, hd, hB, hD, hO, hne⟩, hr⟩ => ⟨⟨D, hd, hB, hD, hne⟩, OMarks.marks hr⟩
theorem OMarks.lt {Own : World → Nat → Prop} {B : Nat} {W : World} : ∀ {ds : List Deferred}, OMarks Own B W ds → ∀ d ∈ ds, ∃ D, d = { target := .collected D, args := #[] } ∧ D < W.heap.size
  | [], _, _, h => by cases h
  | d :: ds, ⟨⟨D, hd, hB, hD, hO, hne⟩, hr⟩, d', h => by
    rcases List.mem_cons.1 h with rfl | h
    · exact ⟨D, hd, (Array.getElem?_eq_some_iff.1 hD).1⟩
    · exact OMarks.lt hr d' h
theorem OMarks.next {P : Program} {n0 g : Nat} {cb : Array Value} {goes : Bool} {Own : World → Nat → Prop} {Inv : List Mv → World → Prop} {pre : List Mv} {B : Nat} {W W' : World} {ds : List Deferred} (hR : Recv P n0 g cb goes Own Inv) (hI : Inv pre W) (h : OMarks Own B W ds) (hb : Below W.heap.size W W') : OMarks Own B W' ds :=
  h.keep fun D hD hO => ⟨(hb.block D (Array.getElem?_eq_some_iff.1 hD).1).trans hD, fun hk => hO ((hR.frame pre W W' hI hb.size (fun k hk => hb.block k (hR.own pre W k hI hk).2)).2 D hk)⟩
theorem OMarks.step {Own : World → Nat → Prop} {B : Nat} {W W' : World} {ds : List Deferred} (h : OMarks Own B W ds) (hs : Saves Own W W') (ho : ∀ k, Own W' k → Own W k ∨ W.heap.size ≤ k) : OMarks Own B W' ds :=
  h.keep fun D hD hO => by
    have hlt := (Array.getElem?_eq_some_iff.1 hD).1
    exact ⟨(hs D hlt hO).trans hD, fun hk => (ho D hk).elim hO (fun hk => by omega)⟩
/-- A mark more: its block is newer than all of them. -/
theorem OMarks.cons {Own : World → Nat → Prop} {B : Nat} {W W' : World} {ds : List Deferred} (h : OMarks Own B W' ds) (hlt : ∀ d ∈ ds, ∃ D, d = { target := .collected D, args := #[] } ∧ D < W.heap.size) {D : Nat} (hD : W.heap.size ≤ D) (hB : B ≤ D) (hh : W'.heap[D]? = some (.deferred (some []))) (hO : ¬ Own W' D) :
    OMarks Own B W' ({ target := .collected D, args := #[] } :: ds) :=
  ⟨⟨D, rfl, hB, hh, hO, fun d' hd' e => by
    obtain ⟨D', h1, h2⟩ := hlt d' hd'
    rw [h1] at e
    injection e with e1
    injection e1 with e1
    omega⟩, h⟩
/-- An owned row stands where its block stands. -/
theorem own_same {W W' : World} {base e g c n size : Nat} {xs : List Value} (h : W.ownsRow base e size (.slice (some ⟨g, 0, none⟩) n c) n xs) (hk : W'.heap[g]? = W.heap[g]?) : W'.ownsRow base e size (.slice (some ⟨g, 0, none⟩) n c) n xs := by
  refine ⟨h.1, ?_⟩
  rcases h.2 with h' | ⟨g', cap, cur, hv, hb, hh, r⟩
  · exact .inl h'
  · refine .inr ⟨g', cap, cur, hv, hb, ?_, r⟩
    injection hv with h1
    injection h1 with h1
    injection h1 with h1
    subst h1
    exact hk.trans hh
end Go.Proofs.Ytbikpadjmmgpcaa
