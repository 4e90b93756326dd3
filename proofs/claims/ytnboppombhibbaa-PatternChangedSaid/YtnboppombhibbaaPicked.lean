/- rosette.picked: for each step what is picked among the offsets of a rubber. -/
import Derived.Test.YtnboppombhibbaaRf
import Derived.Test.YtnboppombhibbaaRos
namespace Go.Proofs.Ytnboppombhibbaa
open Go.RowKit Go.Shelf
set_option linter.unusedVariables false
set_option linter.unusedSimpArgs false
attribute [local go_sem] Oper.semAt_some
def Near (x : Int) : Prop := -20000 ≤ x ∧ x ≤ 20000
def pickX (f b : List Int) (dir : Int) (M : Int → Int → Int) (p j : Nat) : Int := M (f.getD (((p : Int) + dir * ((j : Int) - (b.length : Int) / 2)) % (f.length : Int)).toNat 0) (b.getD j 0)
def pickStep (N : Nat) (X : Nat → Int) (K : Int → Int → Int) (acc : Int) (j : Nat) : Int := if (j : Int) - (N : Int) / 2 = -((N : Int) / 2) then X j else K acc (X j)
def pickSt (N : Nat) (X : Nat → Int) (K : Int → Int → Int) (pre : List (Fin N)) : Int := (pre.map (·.1)).foldl (pickStep N X K) 0
theorem pickSt_snoc (N : Nat) (X : Nat → Int) (K : Int → Int → Int) (pre : List (Fin N)) (x : Fin N) : pickSt N X K (pre ++ [x]) = pickStep N X K (pickSt N X K pre) x.1 := by
  simp [pickSt]
def pickedP (f b : List Int) (dir : Int) (M K : Int → Int → Int) (p : Nat) : Int := pickSt b.length (pickX f b dir M p) K (List.finRange b.length)
def pickedL (f b : List Int) (dir : Int) (M K : Int → Int → Int) (k : Nat) : List Int := (List.range k).map (pickedP f b dir M K)
theorem pickedL_succ (f b : List Int) (dir : Int) (M K : Int → Int → Int) (k : Nat) : pickedL f b dir M K (k + 1) = pickedL f b dir M K k ++ [pickedP f b dir M K k] := by
  simp [pickedL, List.range_succ]
theorem pickedL_length (f b : List Int) (dir : Int) (M K : Int → Int → Int) (k : Nat) : (pickedL f b dir M K k).length = k := by simp [pickedL]

/-- What the boxes of the call hold, and what lay before it. -/
structure PickEnv (w : World) (vf vb : Value) (dir : Int) (mk pk : Nat) (wr : World) : Prop where
  b0 : wr.heap[w.heap.size]? = some (.cells #[vf] 22)
  b1 : wr.heap[w.heap.size + 1]? = some (.cells #[vb] 22)
  b2 : wr.heap[w.heap.size + 1 + 1]? = some (.cells #[.int .i64 dir] 3)
  b3 : wr.heap[w.heap.size + 1 + 1 + 1]? = some (.cells #[.func (.func mk) #[] #[]] 77)
  b4 : wr.heap[w.heap.size + 1 + 1 + 1 + 1]? = some (.cells #[.func (.func pk) #[] #[]] 77)
  below : Below w.heap.size w wr
theorem PickEnv.lt {w : World} {vf vb : Value} {dir : Int} {mk pk : Nat} {wr : World} (h : PickEnv w vf vb dir mk pk wr) : w.heap.size + 5 ≤ wr.heap.size := by
  have := (Array.getElem?_eq_some_iff.1 h.b4).1; omega
theorem PickEnv.keep {w : World} {vf vb : Value} {dir : Int} {mk pk : Nat} {wr W : World} (h : PickEnv w vf vb dir mk pk wr) (hb : Below (w.heap.size + 5) wr W) : PickEnv w vf vb dir mk pk W :=
  ⟨(hb.block _ (by omega)).trans h.b0, (hb.block _ (by omega)).trans h.b1, (hb.block _ (by omega)).trans h.b2, (hb.block _ (by omega)).trans h.b3, (hb.block _ (by omega)).trans h.b4, h.below.trans (hb.mono (by omega))⟩
theorem cell0 {W : World} {B : Nat} {v : Value} {t : TypeId} (h : W.heap[B]? = some (.cells #[v] t)) : W.cell? ⟨B, 0, none⟩ = some v := cell_of_row W B 0 _ _ _ h
theorem frozen0 {W : World} {B : Nat} {cs : Array Value} {t : TypeId} (h : W.heap[B]? = some (.cells cs t)) (i : Nat) : W.frozen? ⟨B, i, none⟩ = false := by simp [World.frozen?, h]

theorem grown_keep {W0 W W' : World} {row : Option Nat} {g : Nat} (h : W0.grownBy W (some g)) (hg : W.grownBy W' row) (hr : ∀ r, row = some r → W0.heap.size ≤ r) : W0.grownBy W' (some g) :=
  ⟨hg.os.trans h.os, hg.tape.trans h.tape, hg.output.trans h.output, Nat.le_trans h.size hg.size, fun k hk hne => (hg.block k (Nat.lt_of_lt_of_le hk h.size) (fun e => by have := hr k e.symm; omega)).trans (h.block k hk hne)⟩
theorem grown_below {W0 W : World} {g B : Nat} (h : W0.grownBy W (some g)) (hB : B ≤ g) (hB2 : B ≤ W0.heap.size) : Below B W0 W :=
  ⟨h.os, h.tape, h.output, h.size, fun k hk => h.block k (by omega) (fun e => by injection e with e; omega)⟩
theorem grown_set {W0 W : World} {g n : Nat} (h : W0.grownBy W (some g)) (u : Value) : W0.grownBy ((W.drewN n).setCell ⟨g, 0, none⟩ u) (some g) :=
  ⟨h.os, h.tape, h.output, by simpa [World.setCell] using h.size, fun k hk hne => (Below.heap_setCell _ _ _ _ (fun e => hne (by rw [e]))).trans (h.block k hk hne)⟩
theorem heap_set0 {W : World} {B n : Nat} {v u : Value} {t : TypeId} (h : W.heap[B]? = some (.cells #[v] t)) : ((W.drewN n).setCell ⟨B, 0, none⟩ u).heap[B]? = some (.cells #[u] t) := by
  have h' : (W.drewN n).heap[B]? = some (.cells #[v] t) := h
  simp only [World.setCell, Array.getElem?_modify, h']
  simp
theorem keepsDrawnSet (W : World) (n : Nat) (a : Addr) (v : Value) : KeepsOthers W ((W.drewN n).setCell a v) :=
  (show KeepsOthers W (W.drewN n) from ⟨Nat.le_refl _, fun _ _ h _ => h⟩).trans (KeepsOthers.setCell _ _ _)
theorem keptDrawnSet (n₀ : Nat) (Bs : List Nat) (W : World) (n : Nat) (g : Nat) (v : Value) (hg : n₀ ≤ g) (hB : ∀ B ∈ Bs, B ≠ g) : Kept n₀ Bs W ((W.drewN n).setCell ⟨g, 0, none⟩ v) :=
  ⟨(below_drewN' (Below.refl _ W) n).setCell (p := ⟨g, 0, none⟩) hg v, fun B hb => Below.heap_setCell _ _ _ _ (hB B hb)⟩
theorem quiet_same' {P : Program} {f : FuncId} {args : Array Value} {W : World} {n : Nat} {v : Value} (h : Calls P f args (W.drewN n) fun e w' => e = .returned v ∧ W.drewN n = w') :
    Calls P f args (W.drewN n) fun e w'' => e = .returned v ∧ ∃ m, w'' = W.drewN m := h.mono fun _ _ ⟨he, hw⟩ => ⟨he, n, hw.symm⟩
def PickRel (f b : List Int) (A A' : Option Addr) (c c' : Nat) (dir : Int) (mk pk : Nat) (M K : Int → Int → Int) (w : World) (a : Act) (wr : World) : Prop :=
  ∃ (k : Nat) (ds : List Deferred) (u11 u12 u13 u14 u15 u16 u20 u21 u22 u23 u24 u25 u26 u27 u28 u29 u30 u31 u32 u33 u34 u35 u36 u37 u38 u39 u40 u41 u42 u43 u44 u45 u46 u47 u48 u49 u50 u51 u52 u53 u54 u55 u56 : Value), a = { tmps := #[.slice A f.length c, .slice A' b.length c', .int .i64 dir, .func (.func mk) #[] #[], .func (.func pk) #[] #[], .pointer (some ⟨w.heap.size, 0, none⟩), .pointer (some ⟨w.heap.size + 1, 0, none⟩), .pointer (some ⟨w.heap.size + 1 + 1, 0, none⟩), .pointer (some ⟨w.heap.size + 1 + 1 + 1, 0, none⟩), .pointer (some ⟨w.heap.size + 1 + 1 + 1 + 1, 0, none⟩), .slice none 0 0, u11, u12, u13, u14, u15, u16, .slice A f.length c, .int .i64 f.length, .int .i64 k, u20, u21, u22, u23, u24, u25, u26, u27, u28, u29, u30, u31, u32, u33, u34, u35, u36, u37, u38, u39, u40, u41, u42, u43, u44, u45, u46, u47, u48, u49, u50, u51, u52, u53, u54, u55, u56], defers := ds } ∧ k ≤ f.length ∧
    PickEnv w (.slice A f.length c) (.slice A' b.length c') dir mk pk wr ∧ Marks (w.heap.size + 5) wr ds ∧
    wr.ownsRow (w.heap.size + 5) 3 1 u11 (pickedL f b dir M K k).length ((pickedL f b dir M K k).map vint)
theorem pickStart (f b : List Int) (A A' : Option Addr) (c c' : Nat) (dir : Int) (mk pk : Nat) (w : World) :
    PickEnv w (.slice A f.length c) (.slice A' b.length c') dir mk pk (((((w.alloc (.cells #[.slice A f.length c] 22)).alloc (.cells #[.slice A' b.length c'] 22)).alloc (.cells #[.int .i64 dir] 3)).alloc (.cells #[.func (.func mk) #[] #[]] 77)).alloc (.cells #[.func (.func pk) #[] #[]] 77)) := by
  refine ⟨?_, ?_, ?_, ?_, ?_, (alc4 w _ _ _ _).alloc (by simp; omega) _⟩
  · exact (Below.heap_alloc _ _ _ (by simp <;> omega)).trans ((Below.heap_alloc _ _ _ (by simp <;> omega)).trans ((Below.heap_alloc _ _ _ (by simp <;> omega)).trans ((Below.heap_alloc _ _ _ (by simp)).trans (heap_alloc_new _ _))))
  · exact (Below.heap_alloc _ _ _ (by simp <;> omega)).trans ((Below.heap_alloc _ _ _ (by simp <;> omega)).trans ((Below.heap_alloc _ _ _ (by simp)).trans (by have h := heap_alloc_new (w.alloc (.cells #[.slice A f.length c] 22)) (.cells #[.slice A' b.length c'] 22); rw [World.size_alloc] at h; exact h)))
  · exact (Below.heap_alloc _ _ _ (by simp <;> omega)).trans ((Below.heap_alloc _ _ _ (by simp)).trans (by have h := heap_alloc_new ((w.alloc (.cells #[.slice A f.length c] 22)).alloc (.cells #[.slice A' b.length c'] 22)) (.cells #[.int .i64 dir] 3); rw [World.size_alloc, World.size_alloc] at h; exact h))
  · exact (Below.heap_alloc _ _ _ (by simp)).trans (by have h := heap_alloc_new (((w.alloc (.cells #[.slice A f.length c] 22)).alloc (.cells #[.slice A' b.length c'] 22)).alloc (.cells #[.int .i64 dir] 3)) (.cells #[.func (.func mk) #[] #[]] 77); rw [World.size_alloc, World.size_alloc, World.size_alloc] at h; exact h)
  · have h := heap_alloc_new ((((w.alloc (.cells #[.slice A f.length c] 22)).alloc (.cells #[.slice A' b.length c'] 22)).alloc (.cells #[.int .i64 dir] 3)).alloc (.cells #[.func (.func mk) #[] #[]] 77)) (.cells #[.func (.func pk) #[] #[]] 77)
    rw [World.size_alloc, World.size_alloc, World.size_alloc, World.size_alloc] at h
    exact h

set_option maxRecDepth 100000 in
set_option maxHeartbeats 4000000 in
theorem pf_picked (f b : List Int) (vf vb : Value) (w : World) (hf : Ints w vf f) (hb : Ints w vb b) (dir : Int) (mk pk : Nat) (M K : Int → Int → Int)
    (hfo : rosOk f = true) (hbo : rubOk b f.length = true) (hdir : dir = 1 ∨ dir = -1)
    (hmk : Plain Try.prog mk) (hpk : Plain Try.prog pk)
    (hM : ∀ h d W, 0 ≤ h ∧ h ≤ 10000 → 0 ≤ d ∧ d ≤ 10000 → Calls Try.prog mk #[.int .i64 h, .int .i64 d] W (fun e w' => e = .returned (.int .i64 (M h d)) ∧ W = w'))
    (hMn : ∀ h d, 0 ≤ h ∧ h ≤ 10000 → 0 ≤ d ∧ d ≤ 10000 → Near (M h d))
    (hK : ∀ x y W, Near x → Near y → Calls Try.prog pk #[.int .i64 x, .int .i64 y] W (fun e w' => e = .returned (.int .i64 (K x y)) ∧ W = w'))
    (hKn : ∀ x y, Near x → Near y → Near (K x y)) :
    Calls Try.prog 103 #[vf, vb, .int .i64 dir, .func (.func mk) #[] #[], .func (.func pk) #[] #[]] w fun e w' => ∃ v', e = .returned v' ∧ Below w.heap.size w w' ∧
      w'.ownsRow w.heap.size 3 1 v' (pickedL f b dir M K f.length).length ((pickedL f b dir M K f.length).map vint) := by
  refine (callsIn_wide (n := 5)).1 ?_
  refine callsIn_of_wp_marks Try.func103 rfl trivial ?_ rfl
  have hf0 := Lib.hid hf
  have hb0 := Lib.hid hb
  obtain ⟨A, c, rfl, hlc, hcm, _, hr⟩ := hf
  obtain ⟨A', c', rfl, hlc', hcm', _, hr'⟩ := hb
  unfold maxLen at hcm hcm'
  have hr1 := Lib.hid hr
  have hr2 := Lib.hid hr'
  clear hr hr'
  simp only [Try.ntmps103, List.size_toArray, List.length_cons, List.length_nil, Nat.reduceAdd, Nat.reduceSub, Array.replicate_succ, Array.replicate_zero, List.push_toArray, List.append_toArray, List.nil_append, List.cons_append]
  gi_wp2
  refine wpIn_loop (PickRel f b A A' c c' dir mk pk M K w) (fun a _ => f.length - (intOf (a.tmps.getD 19 undef)).toNat) ?start ?round
  case start => exact ⟨0, [], _, _, _, _, _, _, _, _, _, _, _, _, _, _, _, _, _, _, _, _, _, _, _, _, _, _, _, _, _, _, _, _, _, _, _, _, _, _, _, _, _, _, _, rfl, Nat.zero_le _, pickStart f b A A' c c' dir mk pk w, trivial, World.ownsRow_nil _ _ _ _⟩
  case round =>
    rintro a wr ⟨k, ds, u11, u12, u13, u14, u15, u16, u20, u21, u22, u23, u24, u25, u26, u27, u28, u29, u30, u31, u32, u33, u34, u35, u36, u37, u38, u39, u40, u41, u42, u43, u44, u45, u46, u47, u48, u49, u50, u51, u52, u53, u54, u55, u56, rfl, hk, env, hm, hown⟩
    have env' := Lib.hid env
    have hm' := Lib.hid hm
    have hown' := Lib.hid hown
    have hwz := env.lt
    have hflen : 3 ≤ f.length ∧ f.length ≤ 96 ∧ f.all heightB = true := by
      unfold rosOk at hfo
      simp only [Bool.and_eq_true, decide_eq_true_eq] at hfo
      exact ⟨hfo.1, hfo.2.1, hfo.2.2⟩
    have hblen : b.length % 2 = 1 ∧ b.length ≤ 31 ∧ b.all heightB = true := by
      unfold rubOk at hbo
      simp only [Bool.and_eq_true, decide_eq_true_eq] at hbo
      exact ⟨hbo.1, hbo.2.2.1, hbo.2.2.2.1⟩
    obtain ⟨hf1, hf2, hfh⟩ := hflen
    obtain ⟨hb1, hb2, hbh⟩ := hblen
    have hfh' := Lib.hid hfh
    have hbh' := Lib.hid hbh
    have hbodd := Lib.hid hb1
    clear env hm hown hfh hbh hb1 hfo hbo
    by_cases hlt : k < f.length
    · have c1 : ∀ o o', ((wr.alloc o).alloc o').cell? ⟨w.heap.size + 1, 0, none⟩ = some (.slice A' b.length c') := fun o o' =>
        (World.cell?_alloc_past _ _ _ (by simp; omega)).trans ((World.cell?_alloc_past _ _ _ (by omega)).trans (cell0 env'.out.b1))
      gi_wp2_with (refine ⟨trivial, ?_⟩; gi_at_call 110; refine (callsIn_wide.2 (pf_offsets _ _ _ _)).mono ?_; rintro e w' ⟨rfl, rfl⟩)
      obtain ⟨W0, hW0⟩ : ∃ W0, (((wr.alloc (.cells #[.int .i64 k] 3)).alloc (.cells #[.int .i64 0] 3)).alloc (.cells #[.slice A' b.length c'] 22)) = W0 := ⟨_, rfl⟩
      rw [hW0]
      have hsz : W0.heap.size = wr.heap.size + 1 + 1 + 1 := by rw [← hW0]; simp
      have hBW : Below wr.heap.size wr W0 := by rw [← hW0]; exact alc3 _ _ _ _
      have hP : W0.heap[wr.heap.size]? = some (.cells #[.int .i64 k] 3) := by
        rw [← hW0]; exact (Below.heap_alloc _ _ _ (by simp <;> omega)).trans ((Below.heap_alloc _ _ _ (by simp)).trans (heap_alloc_new _ _))
      have hBs : W0.heap[wr.heap.size + 1]? = some (.cells #[.int .i64 0] 3) := by
        rw [← hW0]; exact (Below.heap_alloc _ _ _ (by simp)).trans (by have h := heap_alloc_new (wr.alloc (.cells #[.int .i64 k] 3)) (.cells #[.int .i64 0] 3); rw [World.size_alloc] at h; exact h)
      have hO : W0.heap[wr.heap.size + 1 + 1]? = some (.cells #[.slice A' b.length c'] 22) := by
        rw [← hW0]; have h := heap_alloc_new ((wr.alloc (.cells #[.int .i64 k] 3)).alloc (.cells #[.int .i64 0] 3)) (.cells #[.slice A' b.length c'] 22); rw [World.size_alloc, World.size_alloc] at h; exact h
      have env0 : PickEnv w (.slice A f.length c) (.slice A' b.length c') dir mk pk W0 := env'.out.keep (hBW.mono (by omega))
      clear hW0 c1
      have hyield := offsets1_yields b (.slice A' b.length c') w W0 (wr.heap.size + 1 + 1) (w.heap.size + 5) hb0.out (by omega) (by omega) (by omega) (by omega) env0.below (cell0 hO)
      refine wpIn_rangeFunc_ownF rfl (by omega) (gf := 115) (lb := #[.pointer (some ⟨wr.heap.size + 1 + 1, 0, none⟩)]) rfl trivial (enters_of Try.func115 (by kernel_rfl) rfl)
        hyield Kept.trans (Kept.put (by omega) (by simp; omega)) (Below.refl _ _) (fun _ => rfl)
        (fun pre W => W0.grownBy W (some (wr.heap.size + 1)) ∧ W.heap[wr.heap.size + 1]? = some (.cells #[.int .i64 (pickSt b.length (pickX f b dir M k) K pre)] 3) ∧ Near (pickSt b.length (pickX f b dir M k) K pre))
        (fun _ _ _ => False)
        ?own (fun _ _ _ _ _ hs _ _ => hs) ⟨World.grownBy.refl _ _, hBs, by unfold Near; simp [pickSt]⟩
        (fun x => { tmps := #[.slice A f.length c, .slice A' b.length c', .int .i64 dir, .func (.func mk) #[] #[], .func (.func pk) #[] #[], .pointer (some ⟨w.heap.size, 0, none⟩), .pointer (some ⟨w.heap.size + 1, 0, none⟩), .pointer (some ⟨w.heap.size + 1 + 1, 0, none⟩), .pointer (some ⟨w.heap.size + 1 + 1 + 1, 0, none⟩), .pointer (some ⟨w.heap.size + 1 + 1 + 1 + 1, 0, none⟩), .slice none 0 0, u11, .pointer (some ⟨wr.heap.size, 0, none⟩), .pointer (some ⟨wr.heap.size + 1, 0, none⟩), .int .i64 ((x.1 : Int) - (b.length : Int) / 2), .int .i64 b[x.1], u16, .slice A f.length c, .int .i64 f.length, .int .i64 k, .bool true, .int .i64 k, .slice A' b.length c', .func (.func 115) #[] #[.pointer (some ⟨wr.heap.size + 1 + 1, 0, none⟩)], .int .i64 ((x.1 : Int) - (b.length : Int) / 2), .int .i64 b[x.1], u26, u27, u28, u29, u30, u31, u32, u33, u34, u35, u36, u37, u38, u39, u40, u41, u42, u43, u44, u45, u46, u47, u48, u49, u50, u51, u52, u53, u54, u55, u56], defers := [] }) ?assign ?body ?done ?stop
      case own =>
        rintro s X Y row ⟨h1, h2, h3⟩ hg hrow
        refine ⟨grown_keep h1 hg fun r e => (hrow r e).1, ?_, h3⟩
        rw [hg.block (wr.heap.size + 1) ((Array.getElem?_eq_some_iff.1 h2).1) (fun e => by have := (hrow _ e.symm).1; omega)]
        exact h2
      case assign =>
        intro l x W K hK
        dsimp only [offAt]
        gi_wp2
        exact hK
      case body =>
        rintro l pre x W ⟨hg, hcell, hnear⟩ hlen
        have hWz := hg.size
        have envW := env0.keep (grown_below hg (by omega) (by omega))
        have e0 := cell0 envW.b0
        have e1 := cell0 envW.b1
        have e2 := cell0 envW.b2
        have e3 := cell0 envW.b3
        have e4 := cell0 envW.b4
        have ep := cell0 ((hg.block wr.heap.size (by omega) (by simp)).trans hP)
        have es := cell0 hcell
        have ef := frozen0 hcell 0
        have hx := x.2
        obtain ⟨jj, hjj⟩ : ∃ jj : Int, (x.1 : Int) - (b.length : Int) / 2 = jj := ⟨_, rfl⟩
        obtain ⟨yy, hyy⟩ : ∃ yy : Int, b[x.1] = yy := ⟨_, rfl⟩
        have hyb : 0 ≤ yy ∧ yy ≤ 10000 := by
          have := List.all_eq_true.1 hbh'.out _ (List.getElem_mem hx)
          rw [hyy] at this
          exact within_iff.1 this
        obtain ⟨dj, hdj⟩ : ∃ dj : Int, dir * jj = dj := ⟨_, rfl⟩
        have hjb : -16 ≤ jj ∧ jj ≤ 16 := by omega
        have hdb : -16 ≤ dj ∧ dj ≤ 16 := by rcases hdir with rfl | rfl <;> omega
        have hq0 := Int.emod_nonneg ((k : Int) + dj) (show (f.length : Int) ≠ 0 by omega)
        have hq1 := Int.emod_lt_of_pos ((k : Int) + dj) (show (0 : Int) < (f.length : Int) by omega)
        obtain ⟨q, hq⟩ : ∃ q : Nat, ((k : Int) + dj) % (f.length : Int) = (q : Int) := ⟨(((k : Int) + dj) % (f.length : Int)).toNat, by omega⟩
        have hql : q < f.length := by omega
        obtain ⟨bf, foff, rfl, hbf, hcf⟩ := hr1.out (by omega)
        have hcq : W.cell? ⟨bf, foff + q, none⟩ = some (.int .i64 f[q]) := (envW.below.cell (p := ⟨bf, foff + q, none⟩) hbf).trans (hcf q hql)
        have hhb : 0 ≤ f[q] ∧ f[q] ≤ 10000 := within_iff.1 (List.all_eq_true.1 hfh'.out _ (List.getElem_mem hql))
        have hXv : pickX f b dir M k x.1 = M f[q] yy := by
          unfold pickX
          rw [hjj, hdj, hq]
          simp [hql, hx, hyy]
        have hst := pickSt_snoc b.length (pickX f b dir M k) K pre x
        unfold pickStep at hst
        rw [hXv, hjj] at hst
        generalize f[q] = hh at hcq hhb hXv hst
        have hXn := hMn hh yy hhb hyb
        have hMc := fun W => hM hh yy W hhb hyb
        obtain ⟨xv, hxv⟩ : ∃ xv, M hh yy = xv := ⟨_, rfl⟩
        rw [hxv] at hst hXn
        simp only [hxv] at hMc
        obtain ⟨sv, hsv⟩ : ∃ sv, pickSt b.length (pickX f b dir M k) K pre = sv := ⟨_, rfl⟩
        rw [hsv] at hst hnear es
        rw [hjj, hyy]
        have i1 : (0 : Int) ≤ (q : Int) := by omega
        have i2 : (q : Int) < (f.length : Int) := by omega
        have hmk' := hmk
        have hpk' := hpk
        unfold Plain at hmk' hpk'
        have hst' := Lib.hid hst
        have hg' := Lib.hid hg
        have hKc := fun W => hK sv xv W hnear hXn
        have hKb := hKn sv xv hnear hXn
        obtain ⟨kv, hkv⟩ : ∃ kv, K sv xv = kv := ⟨_, rfl⟩
        rw [hkv] at hKb
        simp only [hkv] at hKc
        have hkv' := Lib.hid hkv
        have hMc' := Lib.hid hMc
        have hKc' := Lib.hid hKc
        have hjb1 := hjb.1
        have hjb2 := hjb.2
        have hdb1 := hdb.1
        have hdb2 := hdb.2
        have hcell' := Lib.hid hcell
        have hP' := Lib.hid hP
        have hBs' := Lib.hid hBs
        have hO' := Lib.hid hO
        have hend : ∀ (W3 : World) (z : Int), W3 = W.setCell ⟨wr.heap.size + 1, 0, none⟩ (.int .i64 z) ∨ (∃ n, W3 = (W.drewN n).setCell ⟨wr.heap.size + 1, 0, none⟩ (.int .i64 z)) → True := fun _ _ _ => trivial
        clear hst hcell hP hBs hO hXv hxv hsv hkv hMc hKc hcf hq0 hq1 hjj hyy hend hyield envW
        by_cases hj0 : jj = -((b.length : Int) / 2)
        · have hj1 : (jj == -((b.length : Int) / 2)) = true := by simpa using hj0
          have hfin : pickSt b.length (pickX f b dir M k) K (pre ++ [x]) = xv := by rw [hst'.out, if_pos hj0]
          have hfin' := Lib.hid hfin
          clear hfin hj0
          gi_wp2
          refine wpR_region_quiet_lit (by kernel_rfl) (by kernel_rfl) (by kernel_rfl) ?_
          repeat (go_big_quiet_step ((first | (go_at_call 106; exact quiet_same' (pf_ros_around _ _ _ (by omega) (by omega) (by unfold Mid; omega))) | exact quiet_same' (hMc'.out _))))
          refine wpQuiet_nil ?_
          intro _ hw'
          obtain ⟨nq, hw''⟩ := hw'
          subst hw''
          gi_wp2
          refine ⟨keepsDrawnSet _ _ _ _, keptDrawnSet _ _ _ _ _ _ (by omega) (by simp), grown_set hg'.out _, ?_, ?_⟩
          · rw [hfin'.out]; exact heap_set0 hcell'.out
          · rw [hfin'.out]; exact hXn
        · have hj1 : (jj == -((b.length : Int) / 2)) = false := by simpa using hj0
          have hfin : pickSt b.length (pickX f b dir M k) K (pre ++ [x]) = kv := by rw [hst'.out, if_neg hj0, hkv'.out]
          have hfin' := Lib.hid hfin
          clear hfin hj0
          gi_wp2
          refine wpR_region_quiet_lit (by kernel_rfl) (by kernel_rfl) (by kernel_rfl) ?_
          repeat (go_big_quiet_step ((first | (go_at_call 106; exact quiet_same' (pf_ros_around _ _ _ (by omega) (by omega) (by unfold Mid; omega))) | exact quiet_same' (hMc'.out _))))
          refine wpQuiet_nil ?_
          intro _ hw'
          obtain ⟨nq, hw''⟩ := hw'
          subst hw''
          gi_wp2_with (refine ⟨trivial, ?_⟩; refine (CallsIn.inRound l (callsIn_wide.2 (hKc'.out _))).mono ?_; rintro e w' ⟨rfl, rfl⟩)
          refine ⟨keepsDrawnSet _ _ _ _, keptDrawnSet _ _ _ _ _ _ (by omega) (by simp), grown_set hg'.out _, ?_, ?_⟩
          · rw [hfin'.out]; exact heap_set0 hcell'.out
          · rw [hfin'.out]; exact hKb
      case done =>
        rintro D ys W hD rfl ⟨hg, hcell, hnear⟩ hDK
        have hown0 := (own_below hown'.out (hBW.mono (Nat.le_refl _))).kept hg (by
          by_cases hn : u11.ownBlock = none
          · exact .inl hn
          · refine .inr fun he => ?_
            have := (hown'.out.lt _ he).2
            omega)
        have hWz := hg.size
        have hbst := cell0 hcell
        have hWb : Below (w.heap.size + 5) wr W := (hBW.mono (by omega)).trans (grown_below hg (by omega) (by omega))
        have hmW : Marks (w.heap.size + 5) W ds := hm'.out.keep fun D' _ h' => by
          have hlt' := (Array.getElem?_eq_some_iff.1 h').1
          rw [hg.block D' (by omega) (fun e => by injection e with e; omega), hBW.block D' hlt']; exact h'
        have hDne : ∀ d' ∈ ds, d' ≠ ({ target := .collected D, args := #[] } : Deferred) := by
          intro d' hd' e
          subst e
          have : ∀ (l : List Deferred), Marks (w.heap.size + 5) wr l → ({ target := .collected D, args := #[] } : Deferred) ∈ l → D < wr.heap.size := by
            intro l
            induction l with
            | nil => intro _ h; cases h
            | cons x r ih =>
              rintro ⟨⟨D1, rfl, _, h1, _⟩, hr⟩ hmem
              rcases List.mem_cons.1 hmem with h | h
              · have : D = D1 := by injection h with h _; injection h
                subst this
                exact (Array.getElem?_eq_some_iff.1 h1).1
              · exact ih hr h
          have := this ds hm'.out hd'
          omega
        have hmW' := Lib.hid hmW
        have hDne' := Lib.hid hDne
        have hDK' := Lib.hid hDK
        have hown1 := Lib.hid hown0
        have hg' := Lib.hid hg
        clear hmW hDne hDK hown0 hg hnear hcell hyield hP hBs hO
        gi_wp2_with (first | (gi_at_builtin; go_must (refine wpListIn_appI rfl _ _ 22 rfl (w.heap.size + 5) 3 elemInt u11 (pickedL f b dir M K k) rfl (hown1.out.alloc _) _ [pickSt b.length (pickX f b dir M k) K (List.finRange b.length)] rfl (one_newI _ _ _) (by rw [pickedL_length]; simp; omega) (by simp; omega) ?_)))
        intro v2 w2 h1 h2 h3 _
        have h1' := Lib.hid h1
        clear h1
        have hWa : Below (w.heap.size + 5) wr (W.alloc (.cells #[.int .i64 (pickSt b.length (pickX f b dir M k) K (List.finRange b.length))] 3)) := hWb.alloc (by omega) _
        have hW2 : Below (w.heap.size + 5) wr w2 := hWa.trans h2
        have keepD : ∀ D' : Nat, W.heap[D']? = some (Obj.deferred (some [])) → w2.heap[D']? = some (Obj.deferred (some [])) := fun D' hd => by
          have hl' := (Array.getElem?_eq_some_iff.1 hd).1
          rw [h3.block D' (by simp; omega) (own_ne hown1.out hd), Below.heap_alloc _ _ _ hl']
          exact hd
        have keepD' := Lib.hid keepD
        have h3' := Lib.hid h3
        have h2' := Lib.hid h2
        clear keepD h3 h2 hWa
        gi_wp2
        refine ⟨⟨k + 1, { target := .collected D, args := #[] } :: ds, _, _, _, _, _, _, _, _, _, _, _, _, _, _, _, _, _, _, _, _, _, _, _, _, _, _, _, _, _, _, _, _, _, _, _, _, _, _, _, _, _, _, _, rfl, by omega, env'.out.keep hW2, ⟨⟨D, rfl, by omega, keepD'.out D hDK'.out, hDne'.out⟩, hmW'.out.keep fun D' _ h => keepD'.out D' h⟩, ?_⟩, ?_⟩
        · have h := h1'.out
          rw [pickedL_succ, List.length_append, List.map_append]
          exact h
        · simp [intOf]; omega
      case stop =>
        rintro D cc pre W _ _ h _
        exact h.elim
    · obtain rfl : k = f.length := by omega
      gi_wp2
      refine leaves_marks (w.heap.size + 5) ds wr hm'.out fun w' hb hkeep => ?_
      exact ⟨_, results_tmp rfl _ _ _, u11, rfl, env'.out.below.trans (hb.mono (by omega)), own_base (own_cells hown'.out hkeep) (by omega)⟩
end Go.Proofs.Ytnboppombhibbaa
