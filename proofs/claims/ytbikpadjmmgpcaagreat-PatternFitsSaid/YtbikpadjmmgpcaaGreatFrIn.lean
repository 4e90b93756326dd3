/- exact: fractions that are arguments: what they are; in. The reference: groups. reference 1: In. -/
import Derived.Test.YtbikpadjmmgpcaaGreatOutR
import Derived.Test.YtbikpadjmmgpcaaGreatRN1
import Derived.Test.YtbikpadjmmgpcaaGreatRQ1
namespace Go.Proofs.YtbikpadjmmgpcaaGreat
open Go.RowKit Go.Shelf
set_option linter.unusedVariables false
set_option linter.unusedSimpArgs false
/-- A fraction as it comes in. -/
structure FracA where
  sn : Bool
  gn : List Nat
  sd : Bool
  gd : List Nat
def FracA.ok (x : FracA) : Bool := isW x.sn x.gn && isW x.sd x.gd && !x.sd && decide (0 < x.gd.length)
open Classical in
/-- The fraction that it is, if it is valid. -/
noncomputable def FracA.rat? (x : FracA) : Option Rat := if x.ok = true ∧ Nat.gcd (nv x.gn) (nv x.gd) = 1 then some (mkR x.sn (nv x.gn) (nv x.gd)) else none
def IsFracA (L : Nat → Prop) (w : World) (v : Value) (x : FracA) : Prop := ∃ A c B d, v = .agg #[.bool x.sn, .slice A x.gn.length c, .bool x.sd, .slice B x.gd.length d] ∧ ArrL L (gv .u32) w (.slice A x.gn.length c) x.gn ∧ ArrL L (gv .u32) w (.slice B x.gd.length d) x.gd
theorem IsFracA.le {L : Nat → Prop} {w W : World} {v : Value} {x : FracA} (h : IsFracA L w v x) (hb : Le w W) : IsFracA L W v x := by
  obtain ⟨A, c, B, d, e, h1, h2⟩ := h
  exact ⟨A, c, B, d, e, h1.le hb, h2.le hb⟩
theorem IsFracA.stays {L : Nat → Prop} {w W : World} {v : Value} {x : FracA} (h : IsFracA L w v x) (hb : Stays L w W) : IsFracA L W v x := by
  obtain ⟨A, c, B, d, e, h1, h2⟩ := h
  exact ⟨A, c, B, d, e, h1.stays hb, h2.stays hb⟩
theorem IsFracA.mono {L L2 : Nat → Prop} {w : World} {v : Value} {x : FracA} (h : IsFracA L w v x) (hL : ∀ b, L b → L2 b) : IsFracA L2 w v x := by
  obtain ⟨A, c, B, d, e, h1, h2⟩ := h
  exact ⟨A, c, B, d, e, h1.mono hL, h2.mono hL⟩
theorem isW_norm {s : Bool} {g : List Nat} (h : isW s g = true) : Norm g ∧ g.length ≤ 40 ∧ (nv g = 0 → s = false) := by
  unfold isW at h
  simp only [Bool.and_eq_true, decide_eq_true_eq, Bool.not_eq_true'] at h
  obtain ⟨⟨h1, h2⟩, h3⟩ := h
  have hB := B9_eq
  have hlow : Low g := fun x hx => by
    rw [hB]
    have := List.any_eq_false.1 h2 x hx
    simpa using this
  have hlast : g.getLast? ≠ some 0 := by
    by_cases h0 : g.length = 0
    · have : g = [] := List.eq_nil_of_length_eq_zero h0
      subst this; simp
    · rw [if_neg h0] at h3
      rw [List.getLast?_eq_getElem?]
      intro e
      rw [List.getD_eq_getElem?_getD, e] at h3
      simp at h3
  refine ⟨⟨hlow, hlast⟩, h1, fun hz => ?_⟩
  by_cases h0 : g.length = 0
  · rw [if_pos h0] at h3
    simpa using h3
  · have := nv_pos hlast (fun e => h0 (by rw [e]; rfl))
    omega
theorem isW_dg {s : Bool} {g : List Nat} (h : isW s g = true) : dg (nv g) = g := dg_nv (isW_norm h).1
structure FracA.Val (x : FracA) (r : Rat) : Prop where
  neg : rneg r = x.sn
  num : dg (rnum r) = x.gn
  den : dg r.den = x.gd
  pos : x.sd = false
  wn : isW x.sn x.gn = true
  wd : isW false x.gd = true
  sz : Rsz r 40
theorem FracA.val {x : FracA} {r : Rat} (h : x.rat? = some r) : x.Val r := by
  unfold FracA.rat? at h
  split at h
  · rename_i hc
    injection h with h
    subst h
    obtain ⟨hok, hg⟩ := hc
    unfold FracA.ok at hok
    simp only [Bool.and_eq_true, decide_eq_true_eq, Bool.not_eq_true'] at hok
    obtain ⟨⟨⟨h1, h2⟩, h3⟩, h4⟩ := hok
    obtain ⟨n1, n2, n3⟩ := isW_norm h1
    obtain ⟨d1, d2, d3⟩ := isW_norm h2
    have hd : nv x.gd ≠ 0 := Nat.ne_of_gt (nv_pos d1.2 (fun e => by rw [e] at h4; simp at h4))
    have e1 : rneg (mkR x.sn (nv x.gn) (nv x.gd)) = x.sn := by
      rw [mkR_neg _ _ _ hd]
      by_cases hz : nv x.gn = 0
      · rw [n3 hz]; rfl
      · rw [show decide (0 < nv x.gn) = true by simp; omega, Bool.and_true]
    have e2 : rnum (mkR x.sn (nv x.gn) (nv x.gd)) = nv x.gn := by rw [mkR_num _ _ _ hd, hg, Nat.div_one]
    have e3 : (mkR x.sn (nv x.gn) (nv x.gd)).den = nv x.gd := by rw [mkR_den _ _ _ hd, hg, Nat.div_one]
    refine ⟨e1, by rw [e2, dg_nv n1], by rw [e3, dg_nv d1], h3, h1, by rw [h3] at h2; exact h2, ?_, ?_⟩
    · rw [e2, dg_nv n1]; exact n2
    · rw [e3, dg_nv d1]; exact d2
  · cases h
theorem FracA.bad {x : FracA} (h : x.rat? = none) : x.ok = false ∨ (isW x.sn x.gn = true ∧ isW false x.gd = true ∧ x.sd = false ∧ nv x.gd ≠ 0 ∧ Nat.gcd (nv x.gn) (nv x.gd) ≠ 1) := by
  unfold FracA.rat? at h
  split at h
  · cases h
  · rename_i hc
    cases hok : x.ok with
    | false => exact .inl rfl
    | true =>
      have h5 := hok
      unfold FracA.ok at h5
      simp only [Bool.and_eq_true, decide_eq_true_eq, Bool.not_eq_true'] at h5
      obtain ⟨⟨⟨h1, h2⟩, h3⟩, h4⟩ := h5
      obtain ⟨d1, d2, d3⟩ := isW_norm h2
      refine .inr ⟨h1, by rw [h3] at h2; exact h2, h3, Nat.ne_of_gt (nv_pos d1.2 (fun e => by rw [e] at h4; simp at h4)), fun hg => hc ⟨hok, hg⟩⟩
theorem pf_in_some (L : Nat → Prop) (x : FracA) (r : Rat) (v : Value) (w : World) (hL : Up w L) (h : IsFracA L w v x) (hr : x.rat? = some r) :
    Calls Tryz.prog 45 #[v] w fun e w' => ∃ v', e = .returned v' ∧ Le w w' ∧ RatL L .u32 w' v' r := by
  obtain ⟨A, c, B, d, rfl, h1, h2⟩ := h
  have V := FracA.val hr
  have k := pf_in_ok L r (.slice A x.gn.length c) (.slice B x.gd.length d) w hL (by unfold NumL; rw [V.num]; exact h1) (by unfold NumL; rw [V.den]; exact h2) (by rw [V.neg, V.num]; exact V.wn) (by rw [V.den]; exact V.wd) V.sz
  rw [V.neg] at k
  rw [V.pos]
  exact k
theorem pf_in_none (L : Nat → Prop) (x : FracA) (v : Value) (w : World) (hL : Up w L) (h : IsFracA L w v x) (hr : x.rat? = none) :
    Calls Tryz.prog 45 #[v] w fun e w' => e = .panicked [{ v := .iface 93 (.agg #[.int .i64 10]), recovered := false }] ∧ Le w w' := by
  obtain ⟨A, c, B, d, rfl, h1, h2⟩ := h
  rcases FracA.bad hr with hb | ⟨b1, b2, b3, b4, b5⟩
  · exact pf_in_no L x.sn x.sd x.gn x.gd _ _ w hL h1 h2 hb
  · rw [b3]
    have e1 := isW_dg b1
    have e2 := isW_dg b2
    exact pf_in_gcd L x.sn (nv x.gn) (nv x.gd) _ _ w hL (by unfold NumL; rw [e1]; exact h1) (by unfold NumL; rw [e2]; exact h2) b4 (by rw [e1]; exact b1) (by rw [e2]; exact b2) (by rw [e1]; exact (isW_norm b1).2.1) (by rw [e2]; exact (isW_norm b2).2.1) b5
def takeAll (g : List Nat) (k : Nat) : Prop := ∀ j, j < k → g.getD j 0 < 1000000000
def GroupsPost (L : Nat → Prop) (s : Bool) (g : List Nat) (w : World) (e : Ending) (w' : World) : Prop := Le w w' ∧ ((isW s g = true ∧ ∃ v', e = .returned (.tuple #[v', .bool true]) ∧ NumL L .i64 w' v' (nv g)) ∨ (isW s g = false ∧ e = .returned (.tuple #[.slice none 0 0, .bool false])))
theorem takeAll_low {g : List Nat} (h : takeAll g g.length) : (g.any fun x => decide (1000000000 ≤ x)) = false := by
  rw [List.any_eq_false]
  intro x hx
  obtain ⟨i, hi, rfl⟩ := List.getElem_of_mem hx
  have := h i hi
  rw [getD_of_lt hi] at this
  simpa using this
set_option maxRecDepth 100000 in
set_option maxHeartbeats 2000000 in
theorem pf_n_groups (L L2 : Nat → Prop) (s : Bool) (g : List Nat) (A : Option Addr) (c : Nat) (w : World) (hL : Up w L) (hg : ArrL L2 (gv .u32) w (.slice A g.length c) g) :
    Calls Tryz.prog 106 #[.agg #[.bool s, .slice A g.length c]] w (GroupsPost L s g w) := by
  obtain ⟨A, c, hv, g1, g2, gN, g3⟩ := hg
  injection hv with q1 q2 q3
  subst q1 q3
  unfold maxLen at g2
  by_cases hl : 40 < g.length
  · have hl2 : 40 < (g.length : Int) := by omega
    have hw : isW s g = false := by unfold isW; rw [decide_eq_false (by omega), Bool.false_and, Bool.false_and]
    have hres : Le w (w.alloc (.cells #[.bool s, .slice A g.length c] 32)) := le_alloc _ _
    have hw' := Lib.hid hw
    have g3' := Lib.hid g3
    have gN' := Lib.hid gN
    have hres' := Lib.hid hres
    have hL' := Lib.hid hL
    clear hL hres gN g3 hw
    go_enter Tryz.func106, Tryz.ntmps106
    go_wp2
    go_ret2
    exact ⟨hres'.out, .inr ⟨hw'.out, rfl⟩⟩
  · have hl2 : ¬ 40 < (g.length : Int) := by omega
    have hL' := Lib.hid hL
    have g3' := Lib.hid g3
    have gN' := Lib.hid gN
    clear gN g3 hL
    go_enter Tryz.func106, Tryz.ntmps106
    go_wp2
    obtain ⟨W0, hW0, hle, hbx⟩ : ∃ W0, w.alloc (.cells #[.bool s, .slice A g.length c] 32) = W0 ∧ Le w W0 ∧ W0.heap[w.heap.size]? = some (.cells #[.bool s, .slice A g.length c] 32) := ⟨_, rfl, le_alloc _ _, by unfold World.alloc; exact Array.getElem?_push_size⟩
    rw [hW0]
    have hW0' := Lib.hid hW0
    have hle' := Lib.hid hle
    have hbx' := Lib.hid hbx
    clear hbx hle hW0
    go_loopw [4, 5] (fun o i wr => ∃ (k : Nat) (ov : List Nat), k ≤ g.length ∧ i = .int .i64 k ∧ ov.length = k ∧ Hid (ov = g.take k) ∧ Hid (takeAll g k) ∧ Hid (Below W0.heap.size W0 wr) ∧ Hid (wr.ownsRow W0.heap.size 3 1 o ov.length (ov.map (gv .i64)))) (fun _ i _ => g.length - (intOf i).toNat)
    case atStart => exact ⟨0, [], Nat.zero_le _, rfl, rfl, Lib.hid (by simp), Lib.hid (fun j hj => by omega), Lib.hid (Below.refl _ _), Lib.hid (World.ownsRow_nil _ _ _ _)⟩
    case round =>
      obtain ⟨k, ov, hk, rfl, hlen, hov, hta, hbl, hown⟩ := hrel
      have hbx2 := (Below.block hbl.out w.heap.size (Array.getElem?_eq_some_iff.1 hbx'.out).1).trans hbx'.out
      have a0 := cell_of_row _ _ 0 _ _ (0, 0) hbx2
      have a1 := cell_of_row _ _ 1 _ _ (0, 0) hbx2
      replace a0 : wr.cell? ⟨w.heap.size, 0, none⟩ = some (.bool s) := a0
      replace a1 : wr.cell? ⟨w.heap.size, 1, none⟩ = some (.slice A g.length c) := a1
      have hz : W0.heap.size ≤ wr.heap.size := hbl.out.size
      have hbx2' := Lib.hid hbx2
      clear hbx2
      by_cases hlt : k < g.length
      · obtain ⟨b, off, rfl, -, hbw, hc⟩ := g3'.out (by omega)
        have hck := (Below.cell (hle'.out.trans hbl.out) (p := ⟨b, off + k, none⟩) hbw).trans (hc k hlt)
        obtain ⟨x, hx⟩ : ∃ x, g[k] = x := ⟨_, rfl⟩
        have hxD : g.getD k 0 = x := by rw [getD_of_lt hlt, hx]
        rw [hx] at hck
        unfold gv at hck
        clear hc
        by_cases hbig : 1000000000 ≤ x
        · have hw : isW s g = false := by
            unfold isW
            have : (g.any fun x => decide (1000000000 ≤ x)) = true := by
              rw [List.any_eq_true]
              exact ⟨x, by rw [← hx]; exact List.getElem_mem _, by simpa using hbig⟩
            rw [this, Bool.not_true, Bool.and_false, Bool.false_and]
          have hb2 : (1000000000 : Int) ≤ (x : Int) := by omega
          have hw' := Lib.hid hw
          have hx' := Lib.hid hx
          have hxD' := Lib.hid hxD
          clear hxD hx hw
          go_wp2
          go_ret2
          exact ⟨hle'.out.trans hbl.out, .inr ⟨hw'.out, rfl⟩⟩
        · have hb2 : ¬ (1000000000 : Int) ≤ (x : Int) := by omega
          have hov2 : Hid (ov ++ [x] = g.take (k + 1)) := Lib.hid (by rw [hov.out, List.take_succ_eq_append_getElem hlt, hx])
          have hta2 : Hid (takeAll g (k + 1)) := Lib.hid (fun j hj => by
            by_cases hjk : j = k
            · subst hjk; rw [hxD]; omega
            · exact hta.out j (by omega))
          have hx9 : (x : Int) ≤ 999999999 := by omega
          have hx' := Lib.hid hx
          have hxD' := Lib.hid hxD
          clear hxD hx
          go_wp2_with (at_builtin; go_must (refine wpList_appG rfl (.tmp 24) (.tmp 31) 22 rfl W0.heap.size 3 .i64 8 elemG64 (by decide) _ ov rfl (hown.out.alloc _) _ [x] rfl (one_g _ _ _ _) (by simp; omega) (by simp; omega) ?_); intro v' w' r1 r2 r3 r4)
          have hbn : Hid (Below W0.heap.size W0 w') := Lib.hid ((hbl.out.alloc (by omega) _).trans r2)
          have r1' := Lib.hid r1
          have r2' := Lib.hid r2
          have r3' := Lib.hid r3
          have r4' := Lib.hid r4
          clear r4 r3 r2 r1
          go_wp2
          go_roundw
          case rel => exact ⟨k + 1, ov ++ [x], by omega, by go_num, by simp; omega, hov2, hta2, hbn, r1'⟩
          case measure => simp [intOf]; omega
      · obtain rfl : k = g.length := by omega
        have hovg : ov = g := by rw [hov.out, List.take_length]
        have hany := takeAll_low hta.out
        have hle9 := hle'.out.trans hbl.out
        subst hovg
        have hn : ArrL L (gv .i64) wr _ ov := ArrL.of_own hown.out (fun b hb => hL'.out b (Nat.le_trans hle'.out.size hb))
        clear hov hta
        have hn' := Lib.hid hn
        have hle9' := Lib.hid hle9
        have hany' := Lib.hid hany
        clear hany hle9 hn
        by_cases h0 : ov.length = 0
        · have hw : isW s ov = !s := isW_nil (by omega) hany'.out h0
          obtain ⟨Ao, co, eo, -⟩ := hn'.out
          subst eo
          obtain rfl : ov = [] := List.eq_nil_of_length_eq_zero h0
          clear h0
          cases s
          · have hw' := Lib.hid hw
            clear hw
            go_wp2
            go_ret2
            exact ⟨hle9'.out, .inl ⟨hw'.out, _, rfl, by unfold NumL; rw [isW_dg hw'.out]; exact hn'.out⟩⟩
          · have hw' := Lib.hid hw
            clear hw
            go_wp2
            go_ret2
            exact ⟨hle9'.out, .inr ⟨hw'.out, rfl⟩⟩
        · obtain ⟨m, hm⟩ : ∃ m, ov.length = m + 1 := ⟨ov.length - 1, by omega⟩
          obtain ⟨x, hx⟩ : ∃ x, ov.getD m 0 = x := ⟨_, rfl⟩
          have hw : isW s ov = decide (0 < x) := isW_some (by omega) hany'.out h0 (by rw [show ov.length - 1 = m by omega]; exact hx)
          obtain ⟨G, C, eG, -, -, -, -⟩ := own_form hown.out (by omega)
          subst eG
          have hck := own_cellG hown.out rfl (k := m) (x := x) (by rw [List.getElem?_eq_getElem (by omega), ← hx, getD_of_lt (by omega)])
          unfold gv at hck
          have hmi : (ov.length : Int) - 1 = (m : Int) := by omega
          have h2 : 0 < (ov.length : Int) := by omega
          have h3 : ¬ (ov.length : Int) = 0 := by omega
          have h4 : m < ov.length := by omega
          have h5 : ((ov.length : Int) == 0) = false := beq_eq_false_iff_ne.2 (by omega)
          by_cases hx0 : x = 0
          · subst hx0
            have hw' := Lib.hid hw
            have hx' := Lib.hid hx
            have hm' := Lib.hid hm
            have hown' := Lib.hid hown
            have hbl' := Lib.hid hbl
            clear hbl hown hm hx hw
            go_wp2
            go_ret2
            exact ⟨hle9'.out, .inr ⟨hw'.out, rfl⟩⟩
          · have h6 : ((x : Int) == 0) = false := beq_eq_false_iff_ne.2 (by omega)
            have h7 : ¬ (x : Int) = 0 := by omega
            have hw2 : isW s ov = true := by rw [hw]; simpa using Nat.pos_of_ne_zero hx0
            have hw' := Lib.hid hw
            have hw2' := Lib.hid hw2
            have hx' := Lib.hid hx
            have hm' := Lib.hid hm
            have hown' := Lib.hid hown
            have hbl' := Lib.hid hbl
            clear hbl hown hm hx hw2 hw
            go_wp2
            go_ret2
            exact ⟨hle9'.out, .inl ⟨hw2'.out, _, rfl, by unfold NumL; rw [isW_dg hw2'.out]; exact hn'.out⟩⟩
end Go.Proofs.YtbikpadjmmgpcaaGreat
namespace Go.Proofs.YtbikpadjmmgpcaaGreat
open Go.RowKit Go.Shelf
set_option linter.unusedVariables false
set_option linter.unusedSimpArgs false
def zeroQ : Value := .agg #[.bool false, .slice none 0 0, .slice none 0 0]
def InPost (L : Nat → Prop) (x : FracA) (w : World) (e : Ending) (w' : World) : Prop := Le w w' ∧ ((∃ r, x.rat? = some r ∧ ∃ v, e = .returned (.tuple #[v, .bool true]) ∧ RatL L .i64 w' v r) ∨ (x.rat? = none ∧ e = .returned (.tuple #[zeroQ, .bool false])))
theorem FracA.not_ok {x : FracA} (h : x.ok = false) : x.rat? = none := by
  unfold FracA.rat?
  rw [if_neg (by rw [h]; simp)]
theorem FracA.not_gcd {x : FracA} (h : Nat.gcd (nv x.gn) (nv x.gd) ≠ 1) : x.rat? = none := by
  unfold FracA.rat?
  rw [if_neg fun hh => h hh.2]
theorem FracA.is_rat {x : FracA} (h1 : isW x.sn x.gn = true) (h2 : isW x.sd x.gd = true) (h3 : x.sd = false) (h4 : x.gd.length ≠ 0) (hg : Nat.gcd (nv x.gn) (nv x.gd) = 1) : ∃ r, x.rat? = some r := by
  refine ⟨mkR x.sn (nv x.gn) (nv x.gd), ?_⟩
  unfold FracA.rat?
  rw [if_pos ⟨by unfold FracA.ok; rw [h1, h2, h3]; simp; omega, hg⟩]
theorem cells4F {W : World} {X : Nat} {v0 v1 v2 v3 : Value} {t : TypeId} (h : W.heap[X]? = some (Obj.cells #[v0, v1, v2, v3] t)) : W.cell? ⟨X, 0, none⟩ = some v0 ∧ W.cell? ⟨X, 1, none⟩ = some v1 ∧ W.cell? ⟨X, 2, none⟩ = some v2 ∧ W.cell? ⟨X, 3, none⟩ = some v3 := cells4 h
set_option maxRecDepth 100000 in
set_option maxHeartbeats 4000000 in
theorem pf_n_In (L L2 : Nat → Prop) (x : FracA) (v : Value) (w : World) (hL : Up w L) (h : IsFracA L2 w v x) :
    Calls Tryz.prog 104 #[v] w (InPost L x w) := by
  obtain ⟨A, c, B, d, rfl, h1, h2⟩ := h
  have h1' := Lib.hid h1
  have h2' := Lib.hid h2
  have hL' := Lib.hid hL
  clear hL h2 h1
  go_enter Tryz.func104, Tryz.ntmps104
  go_wp2_with (fail)
  go_at_call 106
  refine (pf_n_groups L L2 x.sn x.gn A c _ (hL'.out.le ((le_alloc _ _).trans (le_alloc _ _))) (h1'.out.le ((le_alloc _ _).trans (le_alloc _ _)))).mono ?_
  rintro e W ⟨hle, hc1⟩
  obtain ⟨hle1, hbx, hbq⟩ := box2_le hle
  have hlt0 := (Array.getElem?_eq_some_iff.1 hbx).1
  have hlt1 := (Array.getElem?_eq_some_iff.1 hbq).1
  obtain ⟨a0, a1, a2, a3⟩ := cells4 hbx
  have hres1 : ∃ v1 b1, e = .returned (.tuple #[v1, .bool b1]) ∧ isW x.sn x.gn = b1 ∧ (b1 = true → NumL L .i64 W v1 (nv x.gn)) ∧ ∃ A c m, v1 = .slice A m c := by
    rcases hc1 with ⟨k1, v1, rfl, k2⟩ | ⟨k1, rfl⟩
    · obtain ⟨A9, c9, e9⟩ := k2.slice
      exact ⟨v1, true, rfl, k1, fun _ => k2, A9, c9, _, e9⟩
    · exact ⟨_, false, rfl, k1, ⟨nofun, none, 0, 0, rfl⟩⟩
  obtain ⟨v1, b1, rfl, hw1, hn1, A1, c1, m1, rfl⟩ := hres1
  clear hc1
  have h2W := h2'.out.le hle1
  have hUW := hL'.out.le hle1
  have hle' := Lib.hid hle
  have hle1' := Lib.hid hle1
  have hbx' := Lib.hid hbx
  have hbq' := Lib.hid hbq
  have hw1' := Lib.hid hw1
  have hn1' := Lib.hid hn1
  have h2W' := Lib.hid h2W
  have hUW' := Lib.hid hUW
  clear hUW h2W hn1 hw1 hbq hbx hle1 hle
  go_wp2_with (fail)
  go_at_call 106
  refine (pf_n_groups L L2 x.sd x.gd B d _ hUW'.out h2W'.out).mono ?_
  rintro e W2 ⟨hle2, hc2⟩
  have hres2 : ∃ v2 b2, e = .returned (.tuple #[v2, .bool b2]) ∧ isW x.sd x.gd = b2 ∧ (b2 = true → NumL L .i64 W2 v2 (nv x.gd)) ∧ ∃ A c m, v2 = .slice A m c := by
    rcases hc2 with ⟨k1, v1, rfl, k2⟩ | ⟨k1, rfl⟩
    · obtain ⟨A9, c9, e9⟩ := k2.slice
      exact ⟨v1, true, rfl, k1, fun _ => k2, A9, c9, _, e9⟩
    · exact ⟨_, false, rfl, k1, ⟨nofun, none, 0, 0, rfl⟩⟩
  obtain ⟨v2, b2, rfl, hw2, hn2, A2, c2, m2, rfl⟩ := hres2
  have hbx2 := (Below.block hle2 _ hlt0).trans hbx'.out
  have hbq2 := (Below.block hle2 _ hlt1).trans hbq'.out
  have hle3 := hle1'.out.trans hle2
  have hUW2 := hL'.out.le hle3
  have hn12 : b1 = true → NumL L .i64 W2 (.slice A1 m1 c1) (nv x.gn) := fun h => (hn1'.out h).le hle2
  clear a0 a1 a2 a3 hc2 hn1' hUW' h2W' hle1' hbx' hbq' hle' h1' h2'
  obtain ⟨a0, a1, a2, a3⟩ := cells4 hbx2
  obtain ⟨z0, z1, z2, g0, g1, g2⟩ := cells3 hbq2
  have hsz2 := Below.size hle2
  have hbad : x.rat? = none → InPost L x w (.returned (.tuple #[zeroQ, .bool false])) W2 := fun h => ⟨hle3, .inr ⟨h, rfl⟩⟩
  have hle2' := Lib.hid hle2
  have hbx2' := Lib.hid hbx2
  have hbq2' := Lib.hid hbq2
  have hle3' := Lib.hid hle3
  have hUW2' := Lib.hid hUW2
  have hw2' := Lib.hid hw2
  have hn2' := Lib.hid hn2
  have hn12' := Lib.hid hn12
  have hbad' := Lib.hid hbad
  clear hbad hn12 hn2 hw2 hUW2 hle3 hbq2 hbx2 hle2
  have hb9 := fun u0 u1 u2 => cells3 (heap_set3 (u0 := u0) (u1 := u1) (u2 := u2) hbq2'.out)
  have hle9 := fun u0 u1 u2 => le_set3 (u0 := u0) (u1 := u1) (u2 := u2) hle3'.out (show w.heap.size ≤ w.heap.size + 1 by omega)
  have hb9' := Lib.hid hb9
  have hle9' := Lib.hid hle9
  clear hle9 hb9
  clear hbad'
  cases b1 with
  | false =>
    have hno : x.rat? = none := FracA.not_ok (by unfold FracA.ok; rw [hw1'.out]; simp)
    have hno' := Lib.hid hno
    clear hno
    cases b2
    all_goals
      go_wp2
      obtain ⟨d0, d1, d2, -⟩ := hb9'.out (.bool false) (.slice none 0 0) (.slice none 0 0)
      exact bodyPost_ret (v := .tuple #[zeroQ, .bool false]) (by simp [results, Tryz.results104, go_sem, d0, d1, d2, zeroQ]) rfl ⟨hle9'.out _ _ _, .inr ⟨hno'.out, rfl⟩⟩
  | true =>
    have hn1 := hn12'.out rfl
    have em : m1 = (dg (nv x.gn)).length := ArrL.len hn1
    cases b2 with
    | false =>
      have hno : x.rat? = none := FracA.not_ok (by unfold FracA.ok; rw [hw2'.out]; simp)
      have hno' := Lib.hid hno
      have hn1' := Lib.hid hn1
      have em' := Lib.hid em
      clear em hn1 hno
      go_wp2
      obtain ⟨d0, d1, d2, -⟩ := hb9'.out (.bool false) (.slice none 0 0) (.slice none 0 0)
      exact bodyPost_ret (v := .tuple #[zeroQ, .bool false]) (by simp [results, Tryz.results104, go_sem, d0, d1, d2, zeroQ]) rfl ⟨hle9'.out _ _ _, .inr ⟨hno'.out, rfl⟩⟩
    | true =>
      have hn2 := hn2'.out rfl
      have em2 : m2 = (dg (nv x.gd)).length := ArrL.len hn2
      have eg : (dg (nv x.gn)) = x.gn := isW_dg hw1'.out
      have eg2 : (dg (nv x.gd)) = x.gd := isW_dg hw2'.out
      have l1 : (dg (nv x.gn)).length ≤ 40 := by rw [eg]; exact (isW_norm hw1'.out).2.1
      have l2 : (dg (nv x.gd)).length ≤ 40 := by rw [eg2]; exact (isW_norm hw2'.out).2.1
      have hfr : ∀ r, x.rat? = some r → rneg r = x.sn ∧ rnum r = nv x.gn ∧ r.den = nv x.gd := fun r hr => by
        have V := FracA.val hr
        exact ⟨V.neg, dg_inj.1 (by rw [V.num, eg]), dg_inj.1 (by rw [V.den, eg2])⟩
      have hok : x.sd = false → x.gd.length ≠ 0 → Nat.gcd (nv x.gn) (nv x.gd) = 1 → ∃ r, x.rat? = some r := fun h3 h4 h5 => FracA.is_rat hw1'.out hw2'.out h3 h4 h5
      have hsdno : x.sd = true → x.rat? = none := fun h => FracA.not_ok (by unfold FracA.ok; rw [h]; simp)
      have hgdno : x.gd.length = 0 → x.rat? = none := fun h => FracA.not_ok (by unfold FracA.ok; rw [h]; simp)
      have em3 : m2 = x.gd.length := by rw [em2, eg2]
      rw [em] at hn1 ⊢
      rw [em2] at hn2
      clear em2 hn12' hn2'
      subst em3
      obtain ⟨sd, hsd⟩ : ∃ sd, x.sd = sd := ⟨_, rfl⟩
      rw [hsd] at a2 ⊢
      cases sd with
      | true =>
        have hno : x.rat? = none := hsdno hsd
        have hno' := Lib.hid hno
        have hn1' := Lib.hid hn1
        have em' := Lib.hid em
        have hn2' := Lib.hid hn2
        have eg' := Lib.hid eg
        have eg2' := Lib.hid eg2
        have hfr' := Lib.hid hfr
        have hok' := Lib.hid hok
        have hsdno' := Lib.hid hsdno
        have hgdno' := Lib.hid hgdno
        have hsd' := Lib.hid hsd
        clear hsd hgdno hsdno hok hfr eg2 eg hn2 em hn1 hno
        go_wp2
        obtain ⟨d0, d1, d2, -⟩ := hb9'.out (.bool false) (.slice none 0 0) (.slice none 0 0)
        exact bodyPost_ret (v := .tuple #[zeroQ, .bool false]) (by simp [results, Tryz.results104, go_sem, d0, d1, d2, zeroQ]) rfl ⟨hle9'.out _ _ _, .inr ⟨hno'.out, rfl⟩⟩
      | false =>
        by_cases h0 : x.gd.length = 0
        · have hno : x.rat? = none := hgdno h0
          have h1 : (x.gd.length : Int) = 0 := by omega
          have h2 : ((x.gd.length : Int) == 0) = true := by rw [h1]; rfl
          have hno' := Lib.hid hno
          have hn1' := Lib.hid hn1
          have em' := Lib.hid em
          have hn2' := Lib.hid hn2
          have eg' := Lib.hid eg
          have eg2' := Lib.hid eg2
          have hfr' := Lib.hid hfr
          have hok' := Lib.hid hok
          have hsdno' := Lib.hid hsdno
          have hgdno' := Lib.hid hgdno
          have hsd' := Lib.hid hsd
          clear hsd hgdno hsdno hok hfr eg2 eg hn2 em hn1 hno
          rw [h0] at a3 h2 ⊢
          clear h0 h1 h2
          go_wp2
          obtain ⟨d0, d1, d2, -⟩ := hb9'.out (.bool false) (.slice none 0 0) (.slice none 0 0)
          exact bodyPost_ret (v := .tuple #[zeroQ, .bool false]) (by simp [results, Tryz.results104, go_sem, d0, d1, d2, zeroQ]) rfl ⟨hle9'.out _ _ _, .inr ⟨hno'.out, rfl⟩⟩
        · have h1 : ¬ (x.gd.length : Int) = 0 := by omega
          have h2 : ((x.gd.length : Int) == 0) = false := beq_eq_false_iff_ne.2 (by omega)
          obtain ⟨G, hG⟩ : ∃ G, Nat.gcd (nv x.gn) (nv x.gd) = G := ⟨_, rfl⟩
          have hdz : nv x.gd ≠ 0 := fun e => h0 (by rw [← eg2, e, dg_zero]; rfl)
          have hGp : 0 < G := by rw [← hG]; exact Nat.gcd_pos_of_pos_right _ (Nat.pos_of_ne_zero hdz)
          have hgno : G ≠ 1 → x.rat? = none := fun h => FracA.not_gcd (by rw [hG]; exact h)
          have hyes : G = 1 → ∃ r, x.rat? = some r := fun h => hok hsd h0 (by rw [hG]; exact h)
          have hn2b : NumL L .i64 W2 (.slice A2 x.gd.length c2) (nv x.gd) := by have h := hn2; rw [eg2] at h; exact h
          clear hok hsdno hgdno h0 hn2
          have hn1' := Lib.hid hn1
          have em' := Lib.hid em
          have hn2b' := Lib.hid hn2b
          have eg' := Lib.hid eg
          have eg2' := Lib.hid eg2
          have hfr' := Lib.hid hfr
          have hsd' := Lib.hid hsd
          have hG' := Lib.hid hG
          have hdz' := Lib.hid hdz
          have hGp' := Lib.hid hGp
          have hgno' := Lib.hid hgno
          have hyes' := Lib.hid hyes
          clear hyes hgno hGp hdz hG hsd hfr eg2 eg hn2b em hn1
          go_wp2_with (fail)
          go_at_call 72
          refine (pf_n_common L (nv x.gn) (nv x.gd) _ _ W2 hUW2'.out hn1'.out hn2b'.out (by omega) (by omega)).mono ?_
          rintro e W3 ⟨v3, rfl, hle4, hg⟩
          rw [hG'.out] at hg
          obtain ⟨A3, c3, rfl⟩ := hg.slice
          have hU3 := hUW2'.out.le hle4
          have hle4' := Lib.hid hle4
          have hg' := Lib.hid hg
          have hU3' := Lib.hid hU3
          clear hU3 hg hle4
          go_wp2_with (fail)
          go_at_call 73
          refine (pf_n_order L L G 1 _ _ _ (hg'.out.le (le_alloc _ _)) (numL_newg (g := 1) hU3'.out (by omega) dg_one_lt _)).mono ?_
          rintro e w4 ⟨rfl, nd, rfl⟩
          obtain ⟨W5, hW5⟩ : ∃ W5, (W3.alloc (.cells #[.int .i64 ((1 : Nat) : Int)] 3)).drewN nd = W5 := ⟨_, rfl⟩
          have hle5 : Le W2 W5 := by rw [← hW5]; exact hle4'.out.trans ((le_alloc _ _).trans (Le.quiet nd))
          rw [hW5]
          clear a0 a1 a2 a3 z0 z1 z2 g0 g1 g2 hb9' hle9'
          have hbx5 := (Below.block hle5 _ (Array.getElem?_eq_some_iff.1 hbx2'.out).1).trans hbx2'.out
          have hbq5 := (Below.block hle5 _ (Array.getElem?_eq_some_iff.1 hbq2'.out).1).trans hbq2'.out
          obtain ⟨a0, a1, a2, a3⟩ := cells4 hbx5
          obtain ⟨z0, z1, z2, g0, g1, g2⟩ := cells3 hbq5
          have hb9 := fun u0 u1 u2 => cells3 (heap_set3 (u0 := u0) (u1 := u1) (u2 := u2) hbq5)
          have hle9 := fun u0 u1 u2 => le_set3 (u0 := u0) (u1 := u1) (u2 := u2) (hle3'.out.trans hle5) (show w.heap.size ≤ w.heap.size + 1 by omega)
          have hfin := fun u0 u1 u2 => And.intro (NumL.box3 (u0 := u0) (u1 := u1) (u2 := u2) (hn1'.out.le hle5) hbq5) (NumL.box3 (u0 := u0) (u1 := u1) (u2 := u2) (hn2b'.out.le hle5) hbq5)
          obtain ⟨o, ho⟩ : ∃ o, ordI G 1 = o := ⟨_, rfl⟩
          rw [ho]
          have hW5' := Lib.hid hW5
          have hle5' := Lib.hid hle5
          have hbx5' := Lib.hid hbx5
          have hbq5' := Lib.hid hbq5
          have hb9' := Lib.hid hb9
          have hle9' := Lib.hid hle9
          have hfin' := Lib.hid hfin
          clear hfin hle9 hb9 hbq5 hbx5 hle5 hW5
          by_cases hG1 : G = 1
          · obtain ⟨r, hr⟩ := hyes'.out hG1
            obtain ⟨f1, f2, f3⟩ := hfr'.out r hr
            have ho1 : o = 0 := by rw [← ho]; exact ordI_zero.2 hG1
            subst ho1
            have hr' := Lib.hid hr
            have f1' := Lib.hid f1
            have f2' := Lib.hid f2
            have f3' := Lib.hid f3
            have hG1' := Lib.hid hG1
            have ho' := Lib.hid ho
            clear ho hG1 f3 f2 f1 hr
            go_wp2
            obtain ⟨d0, d1, d2, -⟩ := hb9'.out (.bool x.sn) (.slice A1 (dg (nv x.gn)).length c1) (.slice A2 x.gd.length c2)
            refine bodyPost_ret (v := .tuple #[.agg #[.bool x.sn, .slice A1 (dg (nv x.gn)).length c1, .slice A2 x.gd.length c2], .bool true]) (by simp [results, Tryz.results104, go_sem, d0, d1, d2]) rfl ⟨hle9'.out _ _ _, .inl ⟨r, hr'.out, _, rfl, _, _, by rw [f1'.out], ?_, ?_⟩⟩
            · rw [f2'.out]; exact (hfin'.out _ _ _).1
            · rw [f3'.out]; exact (hfin'.out _ _ _).2
          · have hno := hgno'.out hG1
            have ho1 : (o == 0) = false := beq_eq_false_iff_ne.2 (fun h => hG1 (ordI_zero.1 (ho.trans h)))
            have ho2 : ¬ o = 0 := fun h => hG1 (ordI_zero.1 (ho.trans h))
            have ho3 : (o != 0) = true := by simpa using ho2
            have hno' := Lib.hid hno
            have ho' := Lib.hid ho
            have hG1' := Lib.hid hG1
            clear hG1 ho hno
            go_wp2
            obtain ⟨d0, d1, d2, -⟩ := hb9'.out (.bool false) (.slice none 0 0) (.slice none 0 0)
            exact bodyPost_ret (v := .tuple #[zeroQ, .bool false]) (by simp [results, Tryz.results104, go_sem, d0, d1, d2, zeroQ]) rfl ⟨hle9'.out _ _ _, .inr ⟨hno'.out, rfl⟩⟩
end Go.Proofs.YtbikpadjmmgpcaaGreat
