/- pattern.Moire. Moire, with its errors, both; the law PatternPairs. -/
import Derived.Test.YtnboppombhibbaaMoireLaw
import Derived.Test.YtnboppombhibbaaL4Small
import Derived.Test.YtnboppombhibbaaP4Phases
import Derived.Test.YtnboppombhibbaaQTail
import Derived.Test.YtnboppombhibbaaR4Moire
import Derived.RangeFuncWrites
namespace Go.Proofs.Ytnboppombhibbaa
open Go.RowKit Go.Shelf Go.Maps
set_option linter.unusedVariables false
set_option linter.unusedSimpArgs false
attribute [local go_sem] Oper.semAt_some
attribute [local go_sem ↓] Go.wp_at_zero Go.wp_at_succ
theorem Twins.next {w : World} {cs z : Array Value} {W W2 : World} (h : Twins w cs z W) (hb : Below W.heap.size W W2) : Twins w cs z W2 :=
  ⟨h.below.trans (hb.mono h.below.size), Nat.le_trans h.size hb.size, (hb.block _ (Array.getElem?_eq_some_iff.1 h.box).1).trans h.box, (hb.block _ (Array.getElem?_eq_some_iff.1 h.out).1).trans h.out⟩
theorem new_block (W : World) (n : Nat) (v : Value) (t : TypeId) : ((W.drewN n).alloc (.cells #[v] t)).heap[W.heap.size]? = some (.cells #[v] t) := alc_at (W.drewN n) _
theorem new_cell (W : World) (n : Nat) (v : Value) (t : TypeId) : ((W.drewN n).alloc (.cells #[v] t)).cell? ⟨W.heap.size, 0, none⟩ = some v := cell0 (new_block W n v t)
theorem new_free (W : World) (n : Nat) (v : Value) (t : TypeId) : ((W.drewN n).alloc (.cells #[v] t)).frozen? ⟨W.heap.size, 0, none⟩ = false := frozen0 (new_block W n v t) 0
theorem new_cell' (W : World) (n : Nat) (v : Value) (t : TypeId) : ((W.alloc (.cells #[v] t)).drewN n).cell? ⟨W.heap.size, 0, none⟩ = some v := cell0 (W := (W.alloc (.cells #[v] t)).drewN n) (alc_at W _)
theorem new_free' (W : World) (n : Nat) (v : Value) (t : TypeId) : ((W.alloc (.cells #[v] t)).drewN n).frozen? ⟨W.heap.size, 0, none⟩ = false := frozen0 (W := (W.alloc (.cells #[v] t)).drewN n) (alc_at W _) 0
/-- Two benches, the second in a box. -/
structure Two (w : World) (b c : Nat) (p q : Prog) (T : Nat) (W : World) : Prop where
  below : Below w.heap.size w W
  one : IsBench W b p
  two : IsBench W c q
  box : W.heap[T]? = some (.cells #[.pointer (some ⟨c, 0, none⟩)] 84)
theorem Two.next {w : World} {b c : Nat} {p q : Prog} {T : Nat} {W W2 : World} (h : Two w b c p q T W) (hb : Below W.heap.size W W2) : Two w b c p q T W2 :=
  ⟨h.below.trans (hb.mono h.below.size), h.one.below hb, h.two.below hb, (hb.block _ (Array.getElem?_eq_some_iff.1 h.box).1).trans h.box⟩
theorem Two.drewN {w : World} {b c : Nat} {p q : Prog} {T : Nat} {W : World} (h : Two w b c p q T W) (n : Nat) : Two w b c p q T (W.drewN n) := h.next (Below.of_drewN _ _)
theorem Two.boxedA {w : World} {b c : Nat} {p q : Prog} {T : Nat} {W : World} (h : Two w b c p q T W) (hs : w.heap.size ≤ W.heap.size) (n : Nat) (v v' : Value) (t : TypeId) :
    ∃ Wx, ((W.drewN n).alloc (.cells #[v] t)).setCell ⟨W.heap.size, 0, none⟩ v' = Wx ∧ Two w b c p q T Wx ∧ Wx.heap[W.heap.size]? = some (.cells #[v'] t) ∧ Wx.heap.size = W.heap.size + 1 := by
  refine ⟨_, rfl, (h.drewN n).next ?_, ?_, by simp [World.setCell]⟩
  · exact (alc1 (W.drewN n) _).setCell (p := ⟨W.heap.size, 0, none⟩) (Nat.le_refl _) _
  · rw [heap_setAt (new_block W n v t)]; rfl
theorem Two.boxedB {w : World} {b c : Nat} {p q : Prog} {T : Nat} {W : World} (h : Two w b c p q T W) (hs : w.heap.size ≤ W.heap.size) (n : Nat) (v v' : Value) (t : TypeId) :
    ∃ Wx, ((W.alloc (.cells #[v] t)).drewN n).setCell ⟨W.heap.size, 0, none⟩ v' = Wx ∧ Two w b c p q T Wx ∧ Wx.heap[W.heap.size]? = some (.cells #[v'] t) ∧ Wx.heap.size = W.heap.size + 1 := by
  refine ⟨_, rfl, h.next ?_, ?_, by simp [World.setCell]⟩
  · exact (below_drewN' (alc1 W _) n).setCell (p := ⟨W.heap.size, 0, none⟩) (Nat.le_refl _) _
  · rw [heap_setAt (W := (W.alloc (.cells #[v] t)).drewN n) (alc_at W _)]; rfl
theorem map_facts {H : Type} (W : World) (P : Program) (k : TypeId) (R : Value → Option (DataW H × List MemPlace)) (t : TypeId) :
    ∃ W5, (W.alloc (.map #[] 0)).alloc (.cells #[.map (some W.heap.size)] t) = W5 ∧ W5.heap.size = W.heap.size + 2 ∧ Below W.heap.size W W5 ∧ W5.ownsMap P k R W.heap.size 0 (.map []) ∧ W5.heap[W.heap.size + 1]? = some (.cells #[.map (some W.heap.size)] t) :=
  ⟨_, rfl, by simp, alc2 _ _ _, (World.ownsMap_made W P k R).alloc _, by have h := heap_alloc_new (W.alloc (.map #[] 0)) (.cells #[.map (some W.heap.size)] t); rw [World.size_alloc] at h; exact h⟩
theorem alc3_facts (w : World) (o0 o1 o2 : Obj) : ∃ W0, ((w.alloc o0).alloc o1).alloc o2 = W0 ∧ W0.heap.size = w.heap.size + 3 ∧ Below w.heap.size w W0 ∧
    W0.heap[w.heap.size]? = some o0 ∧ W0.heap[w.heap.size + 1]? = some o1 ∧ W0.heap[w.heap.size + 2]? = some o2 := by
  refine ⟨_, rfl, by simp, alc3 _ _ _ _, ?_, ?_, ?_⟩
  · exact (Below.heap_alloc _ _ _ (by simp <;> omega)).trans ((Below.heap_alloc _ _ _ (by simp)).trans (heap_alloc_new _ _))
  · exact (Below.heap_alloc _ _ _ (by simp)).trans (by have h := heap_alloc_new (w.alloc o0) o1; rw [World.size_alloc] at h; exact h)
  · have h := heap_alloc_new ((w.alloc o0).alloc o1) o2; rw [World.size_alloc, World.size_alloc] at h; exact h
def phAt0 (p : Prog) (n : Nat) (i : Fin n) : Array Value := #[.int .i64 (i.1 : Nat), .int .i64 (phaseI p (i.1 : Nat))]
/-- What the calls have put into the map: the block M; below n₀, and at the blocks Bs, all is as it was in W0. -/
structure Met (P : Program) (k e : TypeId) (W0 : World) (M n₀ : Nat) (Bs : List Nat) (xs : List Int) (W : World) : Prop where
  kept : Kept n₀ Bs W0 W
  size : W0.heap.size ≤ W.heap.size
  own : W.ownsMap P k (plainElem (H := Unit) P e) M xs.length (Maps.setOf (.lit (.bool true)) (xs.map litI))
theorem Met.from {β : Type} {P : Program} {k e : TypeId} {W0 : World} {M n₀ : Nat} {Bs : List Nat} (g : β → List Int) (hM : M < W0.heap.size) (hn : n₀ ≤ W0.heap.size) (hBs : ∀ B ∈ Bs, B < W0.heap.size) :
    OwnFrom W0.heap.size (fun s W => Met P k e W0 M n₀ Bs (g s) W) := by
  rintro s X Y row ⟨h1, hs, h3⟩ hg hrow
  exact ⟨h1.trans ⟨(Below.refl _ _).grown hg (by omega) fun k e => Nat.le_trans hn (hrow k e).1, fun B hB => hg.block B (by have := hBs B hB; omega) (fun e => by have := (hrow _ e.symm).1; have := hBs B hB; omega)⟩, Nat.le_trans hs hg.size, h3.kept hg (fun e => by have := (hrow _ e.symm).1; omega)⟩
theorem Met.step {P : Program} {k e : TypeId} {W0 : World} {M n₀ : Nat} {Bs : List Nat} {xs : List Int} {W : World} (h : Met P k e W0 M n₀ Bs xs W) (n : Nat) {W2 : World} (x : Int) (hM : M < W0.heap.size) (hn : n₀ ≤ M) (hBs : ∀ B ∈ Bs, B < W0.heap.size ∧ B ≠ M)
    (ho2 : W2.ownsMap P k (plainElem (H := Unit) P e) M (xs.length + 1) ((Maps.setOf (.lit (.bool true)) (xs.map litI)).put (litI x) (.lit (.bool true)))) (hg : (W.drewN n).grownBy W2 (some M)) :
    KeepsFrom W0.heap.size W W2 ∧ Kept n₀ Bs W W2 ∧ Met P k e W0 M n₀ Bs (xs ++ [x]) W2 := by
  have hs := h.size
  have hk : Kept n₀ Bs W W2 := (Kept.drewN n₀ Bs W n).trans ⟨(Below.refl n₀ (W.drewN n)).grown hg (by simp; omega) (fun k e => by cases e; exact hn), fun B hB => hg.block B (by have := (hBs B hB).1; simp; omega) (fun e => by cases e; exact (hBs M hB).2 rfl)⟩
  refine ⟨KeepsFrom.trans (Y := W.drewN n) ⟨Nat.le_refl _, fun _ _ _ hk _ => hk⟩ (KeepsFrom.of_grownBy hg fun j e => by cases e; exact hM), hk, h.kept.trans hk, ?_, ?_⟩
  · have := hg.size
    simp at this
    omega
  · rw [List.map_append, List.map_cons, List.map_nil, Maps.setOf_snoc, List.length_append]
    exact ho2
set_option maxRecDepth 100000 in
set_option maxHeartbeats 1000000 in
theorem pf_pat_Moire_ok (vp vq : Value) (p q : Prog) (w : World) (hvp : IsProg w vp p) (hvq : IsProg w vq q) (hEp : progE p = 0) (hEq : progE q = 0) (hlen : p.ros.length = q.ros.length) :
    Calls Try.prog 27 #[vp, vq] w fun e w' => e = .returned (.tuple #[.int .i64 (togetherN p q), .int .i64 (beatN p q), .int .i64 0]) ∧ Below w.heap.size w w' := by
  have hp0 := Lib.hid hvp
  have hq0 := Lib.hid hvq
  obtain ⟨v0, v1, v5, rfl, h0, h1, h5⟩ := hvp
  obtain ⟨u0, u1, u5, rfl, k0, k1, k5⟩ := hvq
  clear h0 h1 h5 k0 k1 k5
  have hp := benchFacts hEp
  have hq := benchFacts hEq
  have hlz : ((p.ros.length : Int) != (q.ros.length : Int)) = false := by simp [hlen]
  have hpp := (per_pos hp)
  have hqp := (per_pos hq)
  have hpr := hp.ros1
  have hqr := hq.ros1
  have hcb := common_bound hp hq
  have hgcd : ∀ W, Calls Try.prog 67 #[.int .i64 (per p), .int .i64 (per q)] W fun e w' => e = .returned (.int .i64 (commonG p q)) ∧ ∃ n, w' = W.drewN n := fun W => pf_gcd (per p) (per q) W (by omega) (by omega)
  obtain ⟨G, hG⟩ : ∃ G, commonG p q = G := ⟨_, rfl⟩
  rw [hG] at hcb
  simp only [hG] at hgcd
  have hlb := look_bound hp hq
  have htg := together_bound hp hq
  have hps := hp.sh1
  have hqs := hq.sh1
  have hc1 := (close_le hp).2.2
  have hc2 := (close_le hq).2.2
  have hdf := fun j => diff_bound hp hq j
  have hdfe : ∀ j, diffI p q j = (phaseI p j - phaseI q j) % (commonG p q : Int) := fun j => rfl
  have hyp := fun j => phaseI_bound hp j
  have hyq := fun j => phaseI_bound hq j
  have htog : togetherN p q = closeN p / Nat.gcd (closeN p) (closeN q) * closeN q := rfl
  have hlook : lookN p q = p.shifts.length * q.shifts.length * commonG p q := rfl
  have hbeat : beatN p q = (((List.range (lookN p q)).map (diffI p q)).foldl addI []).length := rfl
  rw [htog]
  rw [htog] at htg
  generalize hJ : lookN p q = J at *
  rw [hG] at hlook
  simp only [hG] at hdf hdfe
  have hM1 := hlb.2
  generalize hMn : p.shifts.length * q.shifts.length = Mn at hM1 hlook
  have e1 : (p.shifts.length : Int) * (q.shifts.length : Int) = (Mn : Int) := by rw [← hMn]; simp
  have e2 : (Mn : Int) * (G : Int) = (J : Int) := by rw [hlook]; simp
  have j1 : IntKind.i64.wrap ((p.shifts.length : Int) * (q.shifts.length : Int)) = (Mn : Int) := by rw [e1]; exact IntWalk.i64_in _ (by omega)
  have j2 : IntKind.i64.wrap ((Mn : Int) * (G : Int)) = (J : Int) := by rw [e2]; exact IntWalk.i64_in _ (by omega)
  have hJb := hlb.1
  have hMn' := Lib.hid hMn
  have hlook' := Lib.hid hlook
  have e1' := Lib.hid e1
  have e2' := Lib.hid e2
  have hlb' := Lib.hid hlb
  have htg' := Lib.hid htg
  have hdf' := Lib.hid hdf
  have hdfe' := Lib.hid hdfe
  have hyp' := Lib.hid hyp
  have hyq' := Lib.hid hyq
  have htog' := Lib.hid htog
  have hbeat' := Lib.hid hbeat
  have hJ' := Lib.hid hJ
  have hc1' := Lib.hid hc1
  have hc2' := Lib.hid hc2
  have hps' := Lib.hid hps
  have hqs' := Lib.hid hqs
  have j1' := Lib.hid j1
  have j2' := Lib.hid j2
  clear j2 j1 hqs hps hc2 hc1 hJ hbeat htog hyq hyp hdfe hdf htg hlb e2 e1 hlook hMn
  have hEp' := Lib.hid hEp
  have hEq' := Lib.hid hEq
  have hlen' := Lib.hid hlen
  have hgcd' := Lib.hid hgcd
  have hG' := Lib.hid hG
  have hpp' := Lib.hid hpp
  have hqp' := Lib.hid hqp
  clear hqp hpp hG hgcd hlen hEq hEp
  refine (callsIn_wide (n := 5)).1 ?_
  refine callsIn_of_wp_marks Try.func27 rfl trivial ?_ rfl
  simp only [Try.ntmps27, List.size_toArray, List.length_cons, List.length_nil, Nat.reduceAdd, Nat.reduceSub, Array.replicate_succ, Array.replicate_zero, List.push_toArray, List.append_toArray, List.nil_append, List.cons_append]
  refine wpIn_wide.2 ?_
  have ht := Twins.start w #[v0, v1, .int .i64 p.start, .int .i64 p.throw, .int .i64 p.adv, v5] #[u0, u1, .int .i64 q.start, .int .i64 q.throw, .int .i64 q.adv, u5]
  go_wp2_with (first | (go_at_call 51; ((with_reducible refine (pf_mounted _ p _ (hp0.out.below ht.below) 0 hEp'.out).mono ?_); rintro e w' ⟨vb, rfl, hb1, -, hok⟩; obtain ⟨b, rfl, -, hbench⟩ := hok rfl; have hB1 := Lib.hid hbench; have ht2 := ht.next hb1; obtain ⟨r0, r1, r2, r3, r4, r5⟩ := prog_cells ht2.out; clear hb1 hok hbench ht)) | (go_at_call 51; ((with_reducible refine (pf_mounted _ q _ (hq0.out.below ht2.below) 0 hEq'.out).mono ?_); rintro e w' ⟨vc, rfl, hb2, -, hok2⟩; obtain ⟨c, rfl, -, hbench2⟩ := hok2 rfl; have hB2 := Lib.hid hbench2; have hB1' := Lib.hid (hB1.out.below hb2); have hbel := Lib.hid (ht2.next hb2).below; clear hb2 hok2 hbench2 hB1 ht2 r0 r1 r2 r3 r4 r5)))
  have hT : Two w b c p q w'.heap.size (w'.alloc (.cells #[.pointer (some ⟨c, 0, none⟩)] 84)) := ⟨hbel.out.alloc hbel.out.size _, hB1'.out.below (alc1 _ _), hB2.out.below (alc1 _ _), alc_at _ _⟩
  have hTz : w.heap.size ≤ w'.heap.size := hbel.out.size
  have hTl : w'.heap.size < (w'.alloc (.cells #[.pointer (some ⟨c, 0, none⟩)] 84)).heap.size := by simp
  generalize w'.alloc (.cells #[.pointer (some ⟨c, 0, none⟩)] 84) = W2 at hT hTl ⊢
  generalize w'.heap.size = T at hT hTz hTl ⊢
  clear hB1' hB2 hbel
  obtain ⟨_, _, -, -, -, -, -, -, -, c7, c8, -⟩ := hT.one.cells
  obtain ⟨_, _, -, -, -, -, -, -, -, d7, d8, -⟩ := hT.two.cells
  have hTc := cell0 hT.box
  go_quiet (fail)
  have hT3 := hT.drewN nq
  have hTl3 : T < (W2.drewN nq).heap.size := hTl
  clear c7 c8 d7 d8 hTc hT hTl
  generalize W2.drewN nq = W3 at hT3 hTl3 ⊢
  obtain ⟨_, _, -, -, -, -, -, -, -, -, -, c9⟩ := hT3.one.cells
  obtain ⟨_, _, -, -, -, -, -, -, -, -, -, d9⟩ := hT3.two.cells
  replace c9 : W3.cell? ⟨b, 9, none⟩ = some (.int .i64 (per p)) := c9
  replace d9 : W3.cell? ⟨c, 9, none⟩ = some (.int .i64 (per q)) := d9
  have hTc := cell0 hT3.box
  have hbl := hT3.one.lt
  have hcl := hT3.two.lt
  have z1 := fun n => new_cell W3 n (.int .i64 0) 3
  have z2 := fun n => new_free W3 n (.int .i64 0) 3
  have z3 := fun n => new_cell' W3 n (.int .i64 0) 3
  have z4 := fun n => new_free' W3 n (.int .i64 0) 3
  have s1 := fun W o u => set_apart (show b ≠ W3.heap.size by omega) W 0 o u
  have s2 := fun W o u => set_apart (show c ≠ W3.heap.size by omega) W 0 o u
  have s3 := fun W o u => set_apart (show T ≠ W3.heap.size by omega) W 0 o u
  go_wp2
  go_region_held3 (fun w' => w'.cell? ⟨b, 9, none⟩ = some (.int .i64 (per p)) ∧ w'.cell? ⟨c, 9, none⟩ = some (.int .i64 (per q)) ∧ w'.cell? ⟨T, 0, none⟩ = some (.pointer (some ⟨c, 0, none⟩))) (go_keep) (first | (go_at_call 67; refine (hgcd'.out _).mono ?_; rintro e w' ⟨rfl, nd, rfl⟩))
  all_goals clear z1 z2 z3 z4 s1 s2 s3 c9 d9 hTc
  rotate_left
  all_goals
    first
    | (obtain ⟨W4, hW4, hT4, hG4, hs4⟩ := hT3.boxedA hT3.below.size (1 + nd) (.int .i64 0) (.int .i64 G) 3
       rw [hW4])
    | (obtain ⟨W4, hW4, hT4, hG4, hs4⟩ := hT3.boxedB hT3.below.size (1 + nd) (.int .i64 0) (.int .i64 G) 3
       rw [hW4])
    clear hW4
    rename_i hHeld
    clear hHeld
    have hs3 := hT3.below.size
    clear hT3
    generalize W3.heap.size = T9 at *
    clear W3
    have hmm := @run_makeMap Try.prog
    have hs4' := Lib.hid hs4
    clear hs4
    go_wp2
    obtain ⟨W5, hW5, hs5, hb5, hm5, hM5⟩ := map_facts (H := Unit) W4 Try.prog 3 (plainElem Try.prog 4) 103
    rw [hW5]
    clear hW5 hmm
    have hT5 := hT4.next hb5
    have hs4 := hs4'.out
    clear hs4'
    have hG5 := (hb5.block T9 (by omega)).trans hG4
    generalize hMd : W4.heap.size = M at *
    obtain ⟨_, _, -, -, -, -, -, -, -, -, c8, -⟩ := hT5.one.cells
    obtain ⟨_, _, -, -, -, -, -, -, -, -, d8, -⟩ := hT5.two.cells
    have hTc := cell0 hT5.box
    have hGc := cell0 hG5
    have j1 := j1'.out
    have j2 := j2'.out
    have hMd' := Lib.hid hMd
    have hs4' := Lib.hid hs4
    have hT4' := Lib.hid hT4
    have hG4' := Lib.hid hG4
    have hb5' := Lib.hid hb5
    clear hb5 hG4 hT4 hs4 hMd
    refine wp_region_quiet_tail 12 (by kernel_rfl) (by kernel_rfl) ?_
    simp only [List.take_succ_cons, List.take_zero, List.drop_succ_cons, List.drop_zero]
    repeat (go_big_quiet_step (fail))
    refine wpQuiet_nil ?_
    intro _ hw'
    obtain ⟨nq, hw''⟩ := hw'
    subst hw''
    have hm6 : (W5.drewN nq).ownsMap Try.prog 3 (plainElem (H := Unit) Try.prog 4) M 0 (.map []) := hm5
    have hM6 : (W5.drewN nq).heap[M + 1]? = _ := hM5
    have hs6 : (W5.drewN nq).heap.size = M + 2 := hs5
    have hb6 := below_drewN' hb5'.out nq
    clear hT5 hm5 hG5 hM5 hs5 c8 d8 hTc hGc hb5' j1 j2
    generalize W5.drewN nq = W6 at *
    have hs6' := Lib.hid hs6
    clear hs6
    go_wp2_with (first | (go_at_call 54; ((with_reducible refine (pf_phases _ _ _ _).mono ?_); rintro e w' ⟨rfl, rfl⟩)))
    have hs6 := hs6'.out
    have hs4 := hs4'.out
    clear hs6' hs4'
    obtain ⟨W0, hW0, hsz, hBW, hB3, hB2, hB1⟩ := alc3_facts W6 (.cells #[.pointer (some ⟨b, 0, none⟩)] 84) (.cells #[.int .i64 0] 3) (.cells #[.int .i64 J] 3)
    have hm0 := ((hm6.alloc (.cells #[.pointer (some ⟨b, 0, none⟩)] 84)).alloc (.cells #[.int .i64 0] 3)).alloc (.cells #[.int .i64 J] 3)
    rw [hW0] at hm0 ⊢
    clear hW0
    have hM0 := (hBW.block (M + 1) (by omega)).trans hM6
    have hb0 : Below M W4 W0 := hb6.trans (hBW.mono (by omega))
    clear hm6 hM6 hb6
    generalize hL6 : W6.heap.size = L6 at *
    have hyield := phases1_yields p hp b 0 J W4 W0 (L6 + 1 + 1) (L6 + 1) L6 M hT4'.out.one (by omega) (by omega) (by omega) (by omega) (by omega) (by omega) (by have := hMd'.out; omega) (by rw [hMd'.out]; exact hb0) (cell0 hB1) (cell0 hB2) (cell0 hB3)
    rw [show phAt p 0 J = phAt0 p J by funext i; simp [phAt, phAt0]] at hyield
    have hB1' := Lib.hid hB1
    have hB2' := Lib.hid hB2
    have hB3' := Lib.hid hB3
    have hs4' := Lib.hid hs4
    have hsz' := Lib.hid hsz
    have hL6' := Lib.hid hL6
    clear hL6 hsz hs4 hB3 hB2 hB1
    refine (wpIn_wide (n := 5)).1 ?_
    refine wpIn_rangeFunc_ownG rfl (by omega) (gf := 90) (lb := #[.pointer (some ⟨L6 + 1 + 1, 0, none⟩), .pointer (some ⟨L6 + 1, 0, none⟩), .pointer (some ⟨L6, 0, none⟩)]) rfl trivial (enters_of Try.func90 (by kernel_rfl) rfl)
      hyield Kept.trans (Kept.put (by have := hsz'.out; omega) (by have := hsz'.out; simp; omega)) (Below.refl _ _) (fun _ => rfl)
      (fun pre W => Met Try.prog 3 4 W0 M M [M + 1, L6 + 1 + 1, L6 + 1, L6] (pre.map fun (i : Fin J) => diffI p q i.1) W)
      (fun _ _ _ => False)
      (Met.from _ (by have := hsz'.out; omega) (by have := hsz'.out; omega) (by have := hsz'.out; simp; omega)) (fun _ _ _ _ _ hs _ _ => hs) ⟨Kept.refl _ _ _, Nat.le_refl _, hm0⟩
      ?_ ?_ ?_ ?_ ?_
    rotate_left
    · skip
      intro l x W K hK
      dsimp only [phAt0]
      gi_wp2
      exact hK
    · skip
      rintro l pre x W hmet hlen
      have hMd2 := hMd'.out
      have hs2 := hs4'.out
      have hz2 := hsz'.out
      have hT7 := hT4'.out.next (by rw [hMd2]; exact hb0.trans hmet.kept.1)
      have hTc := cell0 hT7.box
      have hMc := cell0 ((hmet.kept.2 (M + 1) (by simp)).trans hM0)
      have hGc := cell0 (((hb0.trans hmet.kept.1).block T9 (by omega)).trans hG4'.out)
      have hd0 := hdf'.out x.1
      have hde := hdfe'.out x.1
      have hb1 := hyp'.out x.1
      have hb2 := hyq'.out x.1
      have hxJ := x.2
      have hph : ∀ n, Calls Try.prog 58 #[.pointer (some ⟨c, 0, none⟩), .int .i64 (x.1 : Nat)] (W.drewN n) fun e w' => e = .returned (.int .i64 (phaseI q x.1)) ∧ ∃ k, w' = (W.drewN n).drewN k := fun n => pf_phase c q _ _ (hT7.two.drewN n) hq (by omega) (by omega)
      have hst := fun n W2 => hmet.step n (W2 := W2) (diffI p q x.1) (by omega) (Nat.le_refl _) (by simp; omega)
      have hown : ∀ n, (W.drewN n).ownsMap Try.prog 3 (plainElem (H := Unit) Try.prog 4) M (pre.map fun (i : Fin J) => diffI p q i.1).length (Maps.setOf (.lit (.bool true)) ((pre.map fun (i : Fin J) => diffI p q i.1).map litI)) := fun n => hmet.own
      have hpre : ((pre ++ [x]).map fun (i : Fin J) => diffI p q i.1) = (pre.map fun (i : Fin J) => diffI p q i.1) ++ [diffI p q x.1] := by simp
      have hll : (pre.map fun (i : Fin J) => diffI p q i.1).length < maxLen := by simp [maxLen]; omega
      generalize hy1 : phaseI p (x.1 : Nat) = y1 at *
      generalize hy2 : phaseI q (x.1 : Nat) = y2 at *
      have hcall : ∀ W : World, Calls Try.prog 57 #[.int .i64 (y1 - y2), .int .i64 G] W fun e w' => e = .returned (.int .i64 (diffI p q x.1)) ∧ W = w' := fun W => by
        have h := pf_pat_modulo (y1 - y2) G W (by omega) (by omega) (by unfold Mid; omega)
        rw [← hde] at h
        exact h
      have j3 : IntKind.i64.wrap (y1 - y2) = y1 - y2 := IntWalk.i64_in _ (by omega)
      generalize diffI p q x.1 = dd at *
      generalize (pre.map fun (i : Fin J) => diffI p q i.1) = L at *
      have hddw : (Lit.int .i64 dd).wf = true := by
        have h := wrap64_wf dd
        rwa [show wrap64 dd = dd by unfold wrap64; omega] at h
      have hde' := Lib.hid hde
      have hd0' := Lib.hid hd0
      have hb1' := Lib.hid hb1
      have hb2' := Lib.hid hb2
      have hph' := Lib.hid hph
      have hst' := Lib.hid hst
      have hown' := Lib.hid hown
      have hpre' := Lib.hid hpre
      have hll' := Lib.hid hll
      have hy1' := Lib.hid hy1
      have hy2' := Lib.hid hy2
      have hcall' := Lib.hid hcall
      have hmet' := Lib.hid hmet
      have hT7' := Lib.hid hT7
      have hddw' := Lib.hid hddw
      clear hddw hT7 hmet hcall hy2 hy1 hll hpre hown hst hph hb2 hb1 hd0 hde
      clear hyield hs2 hz2 hMd2
      gi_wp2
      refine wpF_region_quiet_tail (lets_round l) 8 (by kernel_rfl) (by kernel_rfl) (by kernel_rfl) ?_
      simp only [List.take_succ_cons, List.take_zero, List.drop_succ_cons, List.drop_zero]
      repeat (go_big_quiet_step (first | (go_at_call 58; exact Calls.quiet_of (hph'.out _)) | (go_at_call 57; exact quiet_same' (hcall'.out _))))
      refine wpQuiet_nil ?_
      intro _ hw'
      obtain ⟨nq, hw''⟩ := hw'
      subst hw''
      gi_wp2_with (first | (gi_at_mapUpdate; refine wpListIn_mapUpdate_own _ rfl _ _ _ 103 rfl 3 4 (Maps.int_keyed Try.underlying3) Try.underlying103 _ M L.length _ rfl (hown'.out nq) hll'.out _ _ (litI dd) rfl rfl (Maps.keyOf_int_mk Try.underlying3 hddw'.out) _ [] (plainElem_bool Try.underlying4 true) ?_; intro w1 hown1 hgrow1; have hst2 := hst'.out nq w1 hown1 hgrow1))
      exact ⟨hst2.1, ⟨hst2.2.1.1, fun B hB => hst2.2.1.2 B (List.mem_cons_of_mem _ hB)⟩, by show Met _ _ _ _ _ _ _ _ _; rw [hpre'.out]; exact hst2.2.2⟩
    · skip
      rintro D ys W hD rfl hmet hDK
      have hMd2 := hMd'.out
      have hs2 := hs4'.out
      have hz2 := hsz'.out
      have hT7 := hT4'.out.next (by rw [hMd2]; exact hb0.trans hmet.kept.1)
      have hTc := cell0 hT7.box
      have hMc := cell0 ((hmet.kept.2 (M + 1) (by simp)).trans hM0)
      have hfin : ((List.finRange J).map fun (i : Fin J) => diffI p q i.1) = (List.range J).map (diffI p q) := by rw [← finRange_val J, List.map_map]; rfl
      have hown := hmet.own
      replace hown : W.ownsMap Try.prog 3 (plainElem (H := Unit) Try.prog 4) M ((List.finRange J).map fun (i : Fin J) => diffI p q i.1).length (Maps.setOf (.lit (.bool true)) (((List.finRange J).map fun (i : Fin J) => diffI p q i.1).map litI)) := hown
      rw [hfin] at hown
      have hsize : Maps.size (Maps.setOf (.lit (.bool true)) (((List.range J).map (diffI p q)).map litI) : DataW Unit) = (beatN p q : Nat) := by rw [size_seen, hbeat'.out]
      have hlen2 : ∀ m n ty, (Builtin.len_ #[103] ty #[.map (some M)]).run Try.prog ((W.drewN m).drewN n) = .ok (.int .i64 (beatN p q : Nat)) ((W.drewN m).drewN n) := fun m n ty => by
        have h : ((W.drewN m).drewN n).ownsMap Try.prog 3 (plainElem (H := Unit) Try.prog 4) M _ _ := hown
        have h2 := h.len Try.underlying103 ty
        rw [hsize] at h2
        exact h2
      have hbel := hT7.below
      have hcl1 : ∀ n, Calls Try.prog 68 #[.pointer (some ⟨b, 0, none⟩)] (W.drewN n) fun e w' => e = .returned (.int .i64 (closeN p)) ∧ ∃ k, w' = (W.drewN n).drewN k := fun n => pf_closes b p _ (hT7.one.drewN n) hp
      have hcl2 : ∀ n, Calls Try.prog 68 #[.pointer (some ⟨c, 0, none⟩)] (W.drewN n) fun e w' => e = .returned (.int .i64 (closeN q)) ∧ ∃ k, w' = (W.drewN n).drewN k := fun n => pf_closes c q _ (hT7.two.drewN n) hq
      have hMl : M < D := by omega
      have hwl : w.heap.size ≤ M := by omega
      clear hyield hs2 hz2 hMd2 hfin hsize
      have htg := htg'.out
      have hg1 := htg.2.2.1
      have hg9 := htg.2.2.2
      have t1 := htg.1
      have t2 := htg.2.1
      have hgc2 : ∀ W, Calls Try.prog 67 #[.int .i64 (closeN p), .int .i64 (closeN q)] W fun e w' => e = .returned (.int .i64 (Nat.gcd (closeN p) (closeN q))) ∧ ∃ n, w' = W.drewN n := fun W => pf_gcd (closeN p) (closeN q) W (by have := hc1'.out; omega) (by have := hc2'.out; omega)
      have hq1 : ((closeN p / Nat.gcd (closeN p) (closeN q) : Nat) : Int) = (closeN p : Int) / (Nat.gcd (closeN p) (closeN q) : Nat) := by simp
      have hdefer := hDK
      clear hDK htg
      generalize hBT : beatN p q = BT at *
      generalize hcp : closeN p = cp at *
      generalize hcq : closeN q = cq at *
      generalize hg2 : Nat.gcd cp cq = g2 at *
      have hq2 : (cp : Int).tdiv (g2 : Int) = (cp : Int) / (g2 : Int) := Int.tdiv_eq_ediv_of_nonneg (by omega)
      rw [← hq1] at hq2
      have k1 : ((g2 : Int) == 0) = false := beq_eq_false_iff_ne.2 (by omega)
      generalize hD2 : cp / g2 = D2 at *
      have hBT' := Lib.hid hBT
      have hcp' := Lib.hid hcp
      have hcq' := Lib.hid hcq
      have hg2' := Lib.hid hg2
      have hD2' := Lib.hid hD2
      clear hD2 hg2 hcq hcp hBT
      have j4 : IntKind.i64.wrap ((D2 : Int) * (cq : Int)) = (D2 : Int) * cq := IntWalk.i64_in _ (by
        have e : (D2 : Int) * (cq : Int) = ((D2 * cq : Nat) : Int) := by simp
        rw [e]; omega)
      have hT7' := Lib.hid hT7
      have hcl1' := Lib.hid hcl1
      have hcl2' := Lib.hid hcl2
      have hown' := Lib.hid hown
      have hmet' := Lib.hid hmet
      have hbel' := Lib.hid hbel
      have hgc2' := Lib.hid hgc2
      have hq1' := Lib.hid hq1
      have hdefer' := Lib.hid hdefer
      have hlen2' := Lib.hid hlen2
      have k1' := Lib.hid k1
      have j4' := Lib.hid j4
      have hq2' := Lib.hid hq2
      have hMc' := Lib.hid hMc
      clear hMc hq2 j4 k1 hlen2 hdefer hq1 hgc2 hbel hmet hown hcl2 hcl1 hT7
      have hg1' := Lib.hid hg1
      have hg9' := Lib.hid hg9
      have t1' := Lib.hid t1
      have t2' := Lib.hid t2
      clear t2 t1 hg9 hg1
      go_wp2
      go_quiet (first | (go_at_call 68; with_reducible first | exact Calls.quiet_of (hcl1'.out _) | exact Calls.quiet_of (hcl2'.out _)))
      have hlen2 := hlen2'.out
      have k1 := k1'.out
      have j4 := j4'.out
      have hq2 := hq2'.out
      have hMc := hMc'.out
      have hd2 : (W.drewN nq).heap[D]? = _ := hdefer'.out
      have hb2 : Below w.heap.size w (W.drewN nq) := below_drewN' hbel'.out nq
      have hMc2 : (W.drewN nq).cell? ⟨M + 1, 0, none⟩ = _ := hMc
      have hlen3 : ∀ n ty, (Builtin.len_ #[103] ty #[.map (some M)]).run Try.prog ((W.drewN nq).drewN n) = .ok (.int .i64 (BT : Nat)) ((W.drewN nq).drewN n) := hlen2 nq
      clear hlen2 hMc
      generalize W.drewN nq = W8 at hd2 hb2 hMc2 hlen3 ⊢
      have hd2' := Lib.hid hd2
      have hb2' := Lib.hid hb2
      clear hb2 hd2
      have t1 := t1'.out
      have t2 := t2'.out
      have hg1 := hg1'.out
      have hg9 := hg9'.out
      have j5 : IntKind.i64.wrap (D2 : Int) = (D2 : Int) := IntWalk.i64_in _ (by omega)
      go_wp2
      go_quiet (first | (go_at_call 67; with_reducible exact Calls.quiet_of (hgc2'.out _)))
      have hd3 : (W8.drewN nq).heap[D]? = _ := hd2'.out
      have hb3 := below_drewN' hb2'.out nq
      generalize W8.drewN nq = W9 at hd3 hb3 ⊢
      have hd3' := Lib.hid hd3
      have hb3' := Lib.hid hb3
      clear hb3 hd3
      go_wp2
      rw [hBT'.out, hcp'.out, hcq'.out, hg2'.out, hD2'.out]
      have e9 : ((D2 * cq : Nat) : Int) = (D2 : Int) * cq := by simp
      rw [e9]
      refine leaves_marks M [{ target := .collected D, args := #[] }] W9 ⟨⟨D, rfl, by omega, hd3'.out, by simp⟩, trivial⟩ fun w9 hb hkeep => ?_
      exact ⟨_, results_tmp3 rfl _ _ _, rfl, hb3'.out.trans (hb.mono hwl)⟩
    · skip
      rintro D cc pre W _ _ h _
      exact h.elim
end Go.Proofs.Ytnboppombhibbaa
namespace Go.Proofs.Ytnboppombhibbaa
open Go.RowKit
set_option linter.unusedVariables false
set_option linter.unusedSimpArgs false
theorem moireE_cases (p q : Prog) (E : Int) (hE : moireE p q = E) :
    (progE p ≠ 0 ∧ progE p = E) ∨ (progE p = 0 ∧ progE q ≠ 0 ∧ progE q = E) ∨ (progE p = 0 ∧ progE q = 0 ∧ p.ros.length ≠ q.ros.length ∧ E = 2) ∨ (progE p = 0 ∧ progE q = 0 ∧ p.ros.length = q.ros.length ∧ E = 0) := by
  unfold moireE at hE
  split at hE
  · rename_i h; exact .inl ⟨h, hE⟩
  · rename_i h
    have h : progE p = 0 := by omega
    split at hE
    · rename_i h2; exact .inr (.inl ⟨h, h2, hE⟩)
    · rename_i h2
      have h2 : progE q = 0 := by omega
      split at hE
      · rename_i h3; exact .inr (.inr (.inl ⟨h, h2, h3, hE.symm⟩))
      · rename_i h3; exact .inr (.inr (.inr ⟨h, h2, by omega, hE.symm⟩))
set_option maxRecDepth 100000 in
set_option maxHeartbeats 2000000 in
theorem pf_pat_Moire (vp vq : Value) (p q : Prog) (w : World) (hvp : IsProg w vp p) (hvq : IsProg w vq q) (E : Int) (hE : moireE p q = E) :
    Calls Try.prog 27 #[vp, vq] w fun e w' => e = .returned (.tuple #[.int .i64 (onOkI E (togetherN p q)), .int .i64 (onOkI E (beatN p q)), .int .i64 E]) ∧ Below w.heap.size w w' := by
  rcases moireE_cases p q E hE with ⟨h1, h2⟩ | ⟨h1, h2, h3⟩ | ⟨h1, h2, h3, rfl⟩ | ⟨h1, h2, h3, rfl⟩
  rotate_left 3
  · rw [onOkI_zero, onOkI_zero]
    exact pf_pat_Moire_ok vp vq p q w hvp hvq h1 h2 h3
  all_goals
    clear hE
    have hp0 := Lib.hid hvp
    have hq0 := Lib.hid hvq
    obtain ⟨v0, v1, v5, rfl, h0, h1', h5⟩ := hvp
    obtain ⟨u0, u1, u5, rfl, k0, k1, k5⟩ := hvq
    clear h0 h1' h5 k0 k1 k5
    have ht := Twins.start w #[v0, v1, .int .i64 p.start, .int .i64 p.throw, .int .i64 p.adv, v5] #[u0, u1, .int .i64 q.start, .int .i64 q.throw, .int .i64 q.adv, u5]
  · rw [h2] at h1
    have hne : (E != 0) = true := by simpa using h1
    rw [onOkI_ne h1, onOkI_ne h1]
    have h1' := Lib.hid h1
    have h2' := Lib.hid h2
    clear h2 h1
    go_enter Try.func27, Try.ntmps27
    go_wp2_with (first | (go_at_call 51; ((with_reducible refine (pf_mounted _ p _ (hp0.out.below ht.below) E h2'.out).mono ?_); rintro e w' ⟨vb, rfl, hb1, hn1, -⟩; have hn2 := hn1 h1'.out; subst hn2; clear hn1)))
    go_ret3
    exact ⟨rfl, (ht.next hb1).below⟩
  · rw [h3] at h2
    have hne : (E != 0) = true := by simpa using h2
    rw [onOkI_ne h2, onOkI_ne h2]
    have h1' := Lib.hid h1
    have h2' := Lib.hid h2
    have h3' := Lib.hid h3
    clear h3 h2 h1
    go_enter Try.func27, Try.ntmps27
    go_wp2_with (first | (go_at_call 51; ((with_reducible refine (pf_mounted _ p _ (hp0.out.below ht.below) 0 h1'.out).mono ?_); rintro e w' ⟨vb, rfl, hb1, -, hok⟩; obtain ⟨b, rfl, -, hbench⟩ := hok rfl; have ht2 := ht.next hb1; obtain ⟨r0, r1, r2, r3, r4, r5⟩ := prog_cells ht2.out; clear hb1 hok hbench ht)) | (go_at_call 51; ((with_reducible refine (pf_mounted _ q _ (hq0.out.below ht2.below) E h3'.out).mono ?_); rintro e w' ⟨vb, rfl, hb1, hn1, -⟩; have hn2 := hn1 h2'.out; subst hn2; clear hn1)))
    go_ret3
    exact ⟨rfl, ((ht2.next hb1).next (alc1 _ _)).below⟩
  · rw [onOkI_ne (by decide), onOkI_ne (by decide)]
    have h4 : (p.ros.length : Int) ≠ (q.ros.length : Int) := fun e => h3 (Int.ofNat.inj e)
    have hlz : ((p.ros.length : Int) != (q.ros.length : Int)) = true := bne_iff_ne.2 h4
    have h4' := Lib.hid h4
    clear h4
    have hp := benchFacts h1
    have hq := benchFacts h2
    have hpr := hp.ros1
    have hqr := hq.ros1
    have h1' := Lib.hid h1
    have h2' := Lib.hid h2
    have h3' := Lib.hid h3
    clear h3 h2 h1
    go_enter Try.func27, Try.ntmps27
    go_wp2_with (first | (go_at_call 51; ((with_reducible refine (pf_mounted _ p _ (hp0.out.below ht.below) 0 h1'.out).mono ?_); rintro e w' ⟨vb, rfl, hb1, -, hok⟩; obtain ⟨b, rfl, -, hbench⟩ := hok rfl; have hB1 := Lib.hid hbench; have ht2 := ht.next hb1; obtain ⟨r0, r1, r2, r3, r4, r5⟩ := prog_cells ht2.out; clear hb1 hok hbench ht)) | (go_at_call 51; ((with_reducible refine (pf_mounted _ q _ (hq0.out.below ht2.below) 0 h2'.out).mono ?_); rintro e w' ⟨vc, rfl, hb2, -, hok2⟩; obtain ⟨c, rfl, -, hbench2⟩ := hok2 rfl; have hB2 := Lib.hid hbench2; have hB1' := Lib.hid (hB1.out.below hb2); have hbel := Lib.hid (ht2.next hb2).below; clear hb2 hok2 hbench2 hB1 ht2 r0 r1 r2 r3 r4 r5)))
    have hT : Two w b c p q w'.heap.size (w'.alloc (.cells #[.pointer (some ⟨c, 0, none⟩)] 84)) := ⟨hbel.out.alloc hbel.out.size _, hB1'.out.below (alc1 _ _), hB2.out.below (alc1 _ _), alc_at _ _⟩
    generalize w'.alloc (.cells #[.pointer (some ⟨c, 0, none⟩)] 84) = W2 at hT ⊢
    generalize w'.heap.size = T at hT ⊢
    clear hB1' hB2 hbel
    obtain ⟨_, _, -, -, -, -, -, -, -, c7, -, -⟩ := hT.one.cells
    obtain ⟨_, _, -, -, -, -, -, -, -, d7, -, -⟩ := hT.two.cells
    have hTc := cell0 hT.box
    go_quiet (fail)
    have hbel := below_drewN' hT.below nq
    generalize W2.drewN nq = W3 at hbel ⊢
    clear c7 d7 hTc hT
    go_wp2
    go_ret3
    exact ⟨rfl, hbel⟩
set_option maxRecDepth 100000 in
set_option maxHeartbeats 2000000 in
theorem pf_r4_Moire (vp vq : Value) (p q : Prog) (w : World) (hvp : IsProg w vp p) (hvq : IsProg w vq q) (E : Int) (hE : moireE p q = E) :
    Calls Try.prog 28 #[vp, vq] w fun e w' => e = .returned (.tuple #[.int .i64 (onOkI E (togetherN p q)), .int .i64 (onOkI E (beatN p q)), .int .i64 E]) ∧ Below w.heap.size w w' := by
  rcases moireE_cases p q E hE with ⟨h1, h2⟩ | ⟨h1, h2, h3⟩ | ⟨h1, h2, h3, rfl⟩ | ⟨h1, h2, h3, rfl⟩
  rotate_left 3
  · rw [onOkI_zero, onOkI_zero]
    exact pf_r4_Moire_ok vp vq p q w hvp hvq h1 h2 h3
  all_goals
    clear hE
    have hp0 := Lib.hid hvp
    have hq0 := Lib.hid hvq
    obtain ⟨v0, v1, v5, rfl, h0, h1', h5⟩ := hvp
    obtain ⟨u0, u1, u5, rfl, k0, k1, k5⟩ := hvq
    obtain ⟨A0, c0, rfl, _, _, _, _⟩ := h0
    obtain ⟨D0, d0, rfl, _, _, _, _⟩ := k0
    clear h1' h5 k1 k5
    have ht := Twins.start w #[.slice A0 p.ros.length c0, v1, .int .i64 p.start, .int .i64 p.throw, .int .i64 p.adv, v5] #[.slice D0 q.ros.length d0, u1, .int .i64 q.start, .int .i64 q.throw, .int .i64 q.adv, u5]
  · rw [h2] at h1
    have hne : (E != 0) = true := by simpa using h1
    rw [onOkI_ne h1, onOkI_ne h1]
    have h1' := Lib.hid h1
    have h2' := Lib.hid h2
    clear h2 h1
    go_enter Try.func28, Try.ntmps28
    go_wp2_with (first | (go_at_call 23; ((with_reducible refine (pf_r4_Check _ p _ (hp0.out.below ht.below) E h2'.out).mono ?_); rintro e w' ⟨rfl, hb1⟩)))
    go_ret3
    exact ⟨rfl, (ht.next' hb1).below⟩
  · rw [h3] at h2
    have hne : (E != 0) = true := by simpa using h2
    rw [onOkI_ne h2, onOkI_ne h2]
    have h1' := Lib.hid h1
    have h2' := Lib.hid h2
    have h3' := Lib.hid h3
    clear h3 h2 h1
    go_enter Try.func28, Try.ntmps28
    go_wp2_with (first | (go_at_call 23; ((with_reducible refine (pf_r4_Check _ p _ (hp0.out.below ht.below) 0 h1'.out).mono ?_); rintro e w' ⟨rfl, hb1⟩; have ht2 := ht.next' hb1; obtain ⟨r0, r1, r2, r3, r4, r5⟩ := prog_cells ht2.out; clear hb1 ht)) | (go_at_call 23; ((with_reducible refine (pf_r4_Check _ q _ (hq0.out.below ht2.below) E h3'.out).mono ?_); rintro e w' ⟨rfl, hb2⟩)))
    go_ret3
    exact ⟨rfl, (ht2.next' hb2).below⟩
  · rw [onOkI_ne (by decide), onOkI_ne (by decide)]
    have h4 : (p.ros.length : Int) ≠ (q.ros.length : Int) := fun e => h3 (Int.ofNat.inj e)
    have hlz : ((p.ros.length : Int) != (q.ros.length : Int)) = true := bne_iff_ne.2 h4
    have h4' := Lib.hid h4
    clear h4
    have h1' := Lib.hid h1
    have h2' := Lib.hid h2
    have h3' := Lib.hid h3
    clear h3 h2 h1
    go_enter Try.func28, Try.ntmps28
    go_wp2_with (first | (go_at_call 23; ((with_reducible refine (pf_r4_Check _ p _ (hp0.out.below ht.below) 0 h1'.out).mono ?_); rintro e w' ⟨rfl, hb1⟩; have ht2 := ht.next' hb1; obtain ⟨r0, r1, r2, r3, r4, r5⟩ := prog_cells ht2.out; clear hb1 ht)) | (go_at_call 23; ((with_reducible refine (pf_r4_Check _ q _ (hq0.out.below ht2.below) 0 h2'.out).mono ?_); rintro e w' ⟨rfl, hb2⟩; have ht3 := ht2.next' hb2; obtain ⟨r0, r1, r2, r3, r4, r5⟩ := prog_cells ht3.out; obtain ⟨p0, p1, p2, p3, p4, p5⟩ := prog_cells ht3.box; clear hb2 ht2)))
    go_ret3
    exact ⟨rfl, ht3.below⟩
end Go.Proofs.Ytnboppombhibbaa
