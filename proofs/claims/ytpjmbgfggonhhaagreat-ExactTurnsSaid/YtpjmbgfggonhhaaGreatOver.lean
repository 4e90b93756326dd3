/- exact: numbers of 0 or more: over (long division). -/
import Derived.Test.YtpjmbgfggonhhaaGreatTake
import Derived.Test.YtpjmbgfggonhhaaGreatMonoR
namespace Go.Proofs.YtpjmbgfggonhhaaGreat
open Go.RowKit Go.Shelf
set_option linter.unusedVariables false
set_option linter.unusedSimpArgs false
attribute [local go_sem] Oper.semAt_some
/-- A store into a box of one cell that holds a slice leaves the numbers. -/
theorem NumL.box_set {L : Nat → Prop} {W : World} {v u x : Value} {n k : Nat} {t : TypeId} (h : NumL L .u32 W v n) (hk : W.heap[k]? = some (.cells #[x] t)) (hx : ∀ g : Nat, x ≠ gv .u32 g := by intro g; unfold gv; simp) : NumL L .u32 (W.setCell ⟨k, 0, none⟩ u) v n := by
  obtain ⟨A, c, hv, h1, h2, hN, h3⟩ := h
  refine ⟨A, c, hv, h1, h2, hN, fun h0 => ?_⟩
  obtain ⟨b, off, ha, hb, hlt, hc⟩ := h3 h0
  have hne : b ≠ k := by
    rintro rfl
    have h4 := hc 0 h0
    rw [cell_of_row W b (off + 0) _ t (0, 0) hk] at h4
    by_cases h5 : off = 0
    · subst h5
      simp at h4
      exact hx _ h4
    · rw [Array.getElem?_eq_none (by simp; omega)] at h4
      cases h4
  exact ⟨b, off, ha, hb, by simpa [World.setCell] using hlt, fun j hj => (World.cell?_of_block (Below.heap_setCell _ _ _ _ hne)).trans (hc j hj)⟩
theorem le_alloc (w : World) (o : Obj) : Le w (w.alloc o) := alc1 w o
theorem box_le {w w' : World} {o : Obj} (h : Le (w.alloc o) w') : Le w w' ∧ w'.heap[w.heap.size]? = some o := by
  unfold Le at h
  rw [World.size_alloc] at h
  exact ⟨(alc1 w o).trans (h.mono (by omega)), (h.block w.heap.size (by omega)).trans (heap_alloc_new w o)⟩
set_option maxRecDepth 100000 in
set_option maxHeartbeats 2000000 in
theorem pf_over_less (L : Nat → Prop) (a b : Nat) (va vb : Value) (w : World) (hL : Up w L) (ha : NumL L .u32 w va a) (hb : NumL L .u32 w vb b) (hma : (dg a).length ≤ 100000000) (hmb : (dg b).length ≤ 100000000) (hlt : a < b) :
    Calls Tryz.prog 95 #[va, vb] w fun e w' => ∃ v1 v2, e = .returned (.tuple #[v1, v2]) ∧ Le w w' ∧ NumL L .u32 w' v1 (a / b) ∧ NumL L .u32 w' v2 (a % b) := by
  have ha0 := ha
  have hb0 := hb
  obtain ⟨Aa, ca, rfl, a1, a2, aN, a3⟩ := ha
  obtain ⟨Ab, cb, rfl, b1, b2, bN, b3⟩ := hb
  have e1 : a / b = 0 := Nat.div_eq_of_lt hlt
  have e2 : a % b = a := Nat.mod_eq_of_lt hlt
  rw [e1, e2]
  have ha0' := Lib.hid ha0
  have hb0' := Lib.hid hb0
  have a3' := Lib.hid a3
  have aN' := Lib.hid aN
  have b3' := Lib.hid b3
  have bN' := Lib.hid bN
  have hL' := Lib.hid hL
  have e1' := Lib.hid e1
  have e2' := Lib.hid e2
  clear e2 e1 hL bN b3 aN a3 hb0 ha0
  go_enter Tryz.func95, Tryz.ntmps95
  go_wp2_with (first | (go_at_call 82; ((with_reducible refine (pf_compare L a b _ _ _ (ha0'.out.le (le_alloc _ _)) (hb0'.out.le (le_alloc _ _)) hma hmb).mono ?_); rintro e w' ⟨c, rfl, hle, hc, hc2⟩; obtain ⟨hle2, hbox⟩ := box_le hle; have hcn : c < 0 := hc.2 hlt; have cbx := cell00 hbox; have fbx := frozen00 hbox 0; clear hc hc2 hle; have hle' := Lib.hid hle2; clear hle2)))
  have c9 := cell00 (heap_put0 hbox (u := .slice none 0 0))
  refine bodyPost_ret (v := .tuple #[.slice none 0 0, .slice Aa (dg a).length ca]) (by simp [results, Tryz.results95, go_sem, c9]) rfl ?_
  refine ⟨_, _, rfl, ?_, ?_, ?_⟩
  · exact hle'.out.setCell (p := ⟨w.heap.size, 0, none⟩) (Nat.le_refl _) _
  · unfold NumL; rw [dg_zero]; exact ArrL.nil _ _ _
  · exact ha0'.out.le (hle'.out.setCell (p := ⟨w.heap.size, 0, none⟩) (Nat.le_refl _) _)
theorem dg_single {b : Nat} (h : (dg b).length = 1) : b < B9 ∧ b ≠ 0 ∧ dg b = [b] := by
  have h1 := lt_of_dg_length b
  rw [h, Nat.pow_one] at h1
  have h2 : b ≠ 0 := dg_length_pos.1 (by omega)
  exact ⟨h1, h2, dg_lt h1 h2⟩
set_option maxRecDepth 100000 in
set_option maxHeartbeats 2000000 in
theorem pf_over_one (L : Nat → Prop) (a b : Nat) (va vb : Value) (w : World) (hL : Up w L) (ha : NumL L .u32 w va a) (hb : NumL L .u32 w vb b) (hma : (dg a).length ≤ 100000000) (hmb : (dg b).length = 1) (hge : b ≤ a) :
    Calls Tryz.prog 95 #[va, vb] w fun e w' => ∃ v1 v2, e = .returned (.tuple #[v1, v2]) ∧ Le w w' ∧ NumL L .u32 w' v1 (a / b) ∧ NumL L .u32 w' v2 (a % b) := by
  have ha0 := ha
  have hb0 := hb
  obtain ⟨Aa, ca, rfl, a1, a2, aN, a3⟩ := ha
  obtain ⟨Ab, cb, rfl, b1, b2, bN, b3⟩ := hb
  obtain ⟨g1, g2, g3⟩ := dg_single hmb
  have hB := B9_eq
  rw [hmb]
  rw [hmb] at b1 hb0
  simp only [hmb] at b3
  obtain ⟨bb, ob, rfl, -, hbb, hcb⟩ := b3 (by omega)
  have hck := hcb 0 (by omega)
  simp only [g3, List.getElem_cons_zero, Nat.add_zero] at hck
  unfold gv at hck
  have hbB : b < 1000000000 := by omega
  have hmod : a % b < 1000000000 := Nat.lt_trans (Nat.mod_lt _ (by omega)) hbB
  obtain ⟨r, hr⟩ : ∃ r, a % b = r := ⟨_, rfl⟩
  rw [hr] at hmod ⊢
  have hb1 : 0 < b := by omega
  have ha0' := Lib.hid ha0
  have hb0' := Lib.hid hb0
  have a3' := Lib.hid a3
  have aN' := Lib.hid aN
  have b3' := Lib.hid b3
  have bN' := Lib.hid bN
  have hL' := Lib.hid hL
  have hcb' := Lib.hid hcb
  have g3' := Lib.hid g3
  have hB' := Lib.hid hB
  have g1' := Lib.hid g1
  have g2' := Lib.hid g2
  have hr' := Lib.hid hr
  clear hr g2 g1 hB g3 hcb hL bN b3 aN a3 hb0 ha0
  go_enter Tryz.func95, Tryz.ntmps95
  go_wp2_with (fail)
  go_at_call 82
  refine (pf_compare L a b _ _ _ (ha0'.out.le (le_alloc _ _)) (hb0'.out.le (le_alloc _ _)) hma (by rw [hmb]; omega)).mono ?_
  rintro e w' ⟨c, rfl, hle, hc, hc2⟩
  have hcn : ¬ c < 0 := fun h => by have := hc.1 h; omega
  obtain ⟨hle2, hbox⟩ := box_le hle
  have hck2 := (Below.cell hle2 (p := ⟨bb, ob, none⟩) hbb).trans hck
  have hbb2 : bb < w'.heap.size := Nat.lt_of_lt_of_le hbb hle2.size
  clear hc hc2 hle
  have hle2' := Lib.hid hle2
  have hbox' := Lib.hid hbox
  clear hbox hle2
  go_wp2_with (fail)
  go_at_call 104
  have hUp1 : Up (w'.alloc (.cells #[.int .i64 1] 3)) L := (hL'.out.le hle2'.out).le (le_alloc _ _)
  refine (pf_byGroup L a b _ _ hUp1 ((ha0'.out.le hle2'.out).le (le_alloc _ _)) hb1 hbB hma).mono ?_
  rintro e w2 ⟨v1, rfl, hle3, hq⟩
  obtain ⟨A1, c1, rfl⟩ := hq.slice
  rw [hr'.out]
  obtain ⟨hle4, hnb⟩ := box_le hle3
  have hbx2 := (Below.block hle4 w.heap.size (by have := (Array.getElem?_eq_some_iff.1 hbox'.out).1; omega)).trans hbox'.out
  have hup2 := hUp1.le hle3
  have hle3' := Lib.hid hle3
  have hle4' := Lib.hid hle4
  have hnb' := Lib.hid hnb
  have hbx2' := Lib.hid hbx2
  have hq' := Lib.hid hq
  have hup2' := Lib.hid hup2
  have hUp1' := Lib.hid hUp1
  clear hUp1 hup2 hq hbx2 hnb hle4 hle3
  go_wp2_with (fail)
  go_at_call 75
  refine (pf_small r w2 (by omega)).mono ?_
  rintro e w3 ⟨v2, rfl, hle5, hown⟩
  have hle6 : Le w2 w3 := hle5
  have hbx3 := (Below.block hle5 w.heap.size (by have := (Array.getElem?_eq_some_iff.1 hbx2'.out).1; omega)).trans hbx2'.out
  have cb := cell00 hbx3
  have fb := frozen00 hbx3 0
  have hle5' := Lib.hid hle5
  have hle6' := Lib.hid hle6
  have hbx3' := Lib.hid hbx3
  have hown' := Lib.hid hown
  clear hown hbx3 hle6 hle5
  go_wp2
  have hn2 : NumL L .u32 w3 v2 r := ArrL.of_own hown'.out hup2'.out
  have c9 := cell00 (heap_put0 hbx3'.out (u := .slice A1 (dg (a / b)).length c1))
  refine bodyPost_ret (v := .tuple #[.slice A1 (dg (a / b)).length c1, v2]) (by simp [results, Tryz.results95, go_sem, c9]) rfl ?_
  have hfin : Below w.heap.size w (w3.setCell ⟨w.heap.size, 0, none⟩ (.slice A1 (dg (a / b)).length c1)) := Below.setCell (Le.trans (Le.trans hle2'.out hle4'.out) hle6'.out) (p := ⟨w.heap.size, 0, none⟩) (Nat.le_refl _) _
  refine ⟨_, _, rfl, hfin, ?_, ?_⟩
  · exact ((hq'.out.le hle6'.out).box_set hbx3'.out)
  · exact hn2.box_set hbx3'.out
end Go.Proofs.YtpjmbgfggonhhaaGreat
