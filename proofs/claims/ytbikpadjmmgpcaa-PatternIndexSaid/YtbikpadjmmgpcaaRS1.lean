/- reference 1: big, Great, SameWhole, SameFrac. reference 1: both. reference 1: what is said of results; CheckFrac, FromInt, Ratio, Compare, Add, Mul, Div. -/
import Derived.Test.YtbikpadjmmgpcaaRQ5
namespace Go.Proofs.Ytbikpadjmmgpcaa
open Go.RowKit Go.Shelf
set_option linter.unusedVariables false
set_option linter.unusedSimpArgs false
def bigB (n m : Nat) : Bool := (decide (m < n) && decide (n ≤ 40)) || decide (42 < n)
def greatB (x : FracA) (m : Nat) : Bool := bigB x.gn.length m || bigB x.gd.length m
theorem ArrL.lenB {α : Type} {L : Nat → Prop} {f : α → Value} {w : World} {v : Value} {xs : List α} (h : ArrL L f w v xs) : (xs.length : Int) ≤ 9223372036854775807 := by
  obtain ⟨A, c, hv, h1, h2, -⟩ := h
  unfold maxLen at h2
  omega
def sameW (s1 : Bool) (g1 : List Nat) (s2 : Bool) (g2 : List Nat) : Bool := (s1 == s2) && (g1 == g2)
set_option maxRecDepth 100000 in
set_option maxHeartbeats 1000000 in
theorem pf_n_SameWhole (L L2 : Nat → Prop) (s1 s2 : Bool) (g1 g2 : List Nat) (A B : Option Addr) (c d : Nat) (w : World) (h1 : ArrL L (gv .u32) w (.slice A g1.length c) g1) (h2 : ArrL L2 (gv .u32) w (.slice B g2.length d) g2) :
    Calls Try.prog 32 #[.agg #[.bool s1, .slice A g1.length c], .agg #[.bool s2, .slice B g2.length d]] w fun e w' => e = .returned (.bool (sameW s1 g1 s2 g2)) ∧ Le w w' := by
  have l1 := h1.lenB
  have l2 := h2.lenB
  obtain ⟨W0, hW0, hsz, hle, k0, k1⟩ := new2_le w (.cells #[.bool s1, .slice A g1.length c] 27) (.cells #[.bool s2, .slice B g2.length d] 27)
  by_cases hs : s1 = s2
  · subst hs
    by_cases hl : g1.length = g2.length
    · have hne : ((g1.length : Int) != (g2.length : Int)) = false := by simp [hl]
      have hne2 : ¬ (g1.length : Int) ≠ (g2.length : Int) := by simp [hl]
      have hres : sameW s1 g1 s1 g2 = (g1 == g2) := by unfold sameW; simp
      rw [hres]
      obtain ⟨Ap, cp, ep, -, -, aN, a3⟩ := h1
      injection ep with e1 e2 e3
      subst e1 e3
      obtain ⟨Bp, dp, ep, -, -, bN, b3⟩ := h2
      injection ep with e1 e4 e3
      subst e1 e3
      have hl' := Lib.hid hl
      have hres' := Lib.hid hres
      have a3' := Lib.hid a3
      have b3' := Lib.hid b3
      have aN' := Lib.hid aN
      have bN' := Lib.hid bN
      have hW0' := Lib.hid hW0
      have hle' := Lib.hid hle
      have k0' := Lib.hid k0
      have k1' := Lib.hid k1
      clear k1 k0 hle hW0 bN aN b3 a3 hres hl
      clear e2 e4
      go_enter Try.func32, Try.ntmps32
      go_wp2
      rw [hW0'.out]
      go_loopw [5] (fun i wr => ∃ k : Nat, k ≤ g1.length ∧ i = .int .i64 k ∧ Hid (g1.take k = g2.take k) ∧ Hid (Le W0 wr)) (fun i _ => g1.length - (intOf i).toNat)
      case atStart => exact ⟨0, Nat.zero_le _, rfl, Lib.hid (by simp), Lib.hid (Le.refl _)⟩
      case round =>
        obtain ⟨k, hk, rfl, hpre, hlr⟩ := hrel
        have q0 := (hlr.out.block w.heap.size (by omega)).trans k0'.out
        have q1 := (hlr.out.block (w.heap.size + 1) (by omega)).trans k1'.out
        obtain ⟨z0, z1⟩ := cells2 q0
        obtain ⟨y0, y1⟩ := cells2 q1
        have q0' := Lib.hid q0
        have q1' := Lib.hid q1
        clear q1 q0
        by_cases hlt : k < g1.length
        · have hlt2 : k < g2.length := by have := hl'.out; omega
          obtain ⟨ba, oa, rfl, -, hba, hca⟩ := a3'.out (by omega)
          obtain ⟨bb, ob, rfl, -, hbb, hcb⟩ := b3'.out (by omega)
          have hcka := (Below.cell (hle'.out.trans hlr.out) (p := ⟨ba, oa + k, none⟩) hba).trans (hca k hlt)
          have hckb := (Below.cell (hle'.out.trans hlr.out) (p := ⟨bb, ob + k, none⟩) hbb).trans (hcb k hlt2)
          unfold gv at hcka hckb
          obtain ⟨x, hx⟩ : ∃ x, g1[k] = x := ⟨_, rfl⟩
          obtain ⟨y, hy⟩ : ∃ y, g2[k] = y := ⟨_, rfl⟩
          rw [hx] at hcka
          rw [hy] at hckb
          clear hca hcb
          have i1 : (0 : Int) ≤ (k : Int) := by omega
          have i2 : (k : Int) < (g1.length : Int) := by omega
          have i3 : (k : Int) < (g2.length : Int) := by omega
          by_cases hxy : x = y
          · subst hxy
            have hz : ((x : Int) != (x : Int)) = false := by simp
            have hp2 : Hid (g1.take (k + 1) = g2.take (k + 1)) := Lib.hid (by rw [List.take_succ_eq_append_getElem hlt, List.take_succ_eq_append_getElem hlt2, hpre.out, hx, hy])
            have hx' := Lib.hid hx
            have hy' := Lib.hid hy
            clear hy hx
            go_wp2
            go_quiet (fail)
            go_wp2
            go_roundw
            case rel => exact ⟨k + 1, by omega, by go_num, hp2, Lib.hid (hlr.out.trans (Le.quiet _))⟩
            case measure => simp [intOf]; omega
          · have hz : ((x : Int) != (y : Int)) = true := by simp; omega
            have hne9 : (g1 == g2) = false := by
              rw [beq_eq_false_iff_ne]
              intro he
              subst he
              exact hxy (hx.symm.trans hy)
            have hne9' := Lib.hid hne9
            have hx' := Lib.hid hx
            have hy' := Lib.hid hy
            clear hy hx
            clear hne9 hxy
            go_wp2
            go_quiet (fail)
            go_wp2
            go_ret
            exact ⟨ret_bool (by rw [hne9'.out]), hle'.out.trans (hlr.out.trans (Le.quiet _))⟩
        · have he : (g1 == g2) = true := by
            rw [beq_iff_eq]
            have h := hpre.out
            have := hl'.out
            rwa [List.take_of_length_le (by omega), List.take_of_length_le (by omega)] at h
          have he' := Lib.hid he
          clear he
          have hlt2 : ¬ (k : Int) < (g1.length : Int) := by omega
          go_wp2
          go_ret
          exact ⟨ret_bool (by rw [he'.out]), hle'.out.trans hlr.out⟩
    · have hne : ((g1.length : Int) != (g2.length : Int)) = true := by simp; omega
      have hne2 : (g1.length : Int) ≠ (g2.length : Int) := by omega
      have hres : sameW s1 g1 s1 g2 = false := by
        unfold sameW
        have : (g1 == g2) = false := beq_eq_false_iff_ne.2 (fun h => hl (by rw [h]))
        rw [this, Bool.and_false]
      rw [hres]
      have hres' := Lib.hid hres
      have h1' := Lib.hid h1
      have h2' := Lib.hid h2
      have hW0' := Lib.hid hW0
      have hle' := Lib.hid hle
      have k0' := Lib.hid k0
      have k1' := Lib.hid k1
      have hl' := Lib.hid hl
      clear hl k1 k0 hle hW0 h2 h1 hres
      go_enter Try.func32, Try.ntmps32
      go_wp2
      go_ret
      have h9 := hle'.out
      rw [← hW0'.out] at h9
      exact ⟨rfl, h9⟩
  · have hres : sameW s1 g1 s2 g2 = false := by
      unfold sameW
      rw [beq_eq_false_iff_ne.2 hs, Bool.false_and]
    have hs2 : (s1 != s2) = true := by simpa using hs
    rw [hres]
    have hres' := Lib.hid hres
    have h1' := Lib.hid h1
    have h2' := Lib.hid h2
    have hW0' := Lib.hid hW0
    have hle' := Lib.hid hle
    have k0' := Lib.hid k0
    have k1' := Lib.hid k1
    clear k1 k0 hle hW0 h2 h1 hres
    go_enter Try.func32, Try.ntmps32
    go_wp2
    go_ret
    have h9 := hle'.out
    rw [← hW0'.out] at h9
    exact ⟨rfl, h9⟩
def sameF (x y : FracA) : Bool := sameW x.sn x.gn y.sn y.gn && sameW x.sd x.gd y.sd y.gd
theorem sameF_self (x : FracA) : sameF x x = true := by unfold sameF sameW; simp
set_option maxHeartbeats 1000000 in
theorem pf_n_SameFrac (L L2 : Nat → Prop) (x y : FracA) (v1 v2 : Value) (w : World) (h1 : IsFracA L w v1 x) (h2 : IsFracA L2 w v2 y) :
    Calls Try.prog 8 #[v1, v2] w fun e w' => e = .returned (.bool (sameF x y)) ∧ Le w w' := by
  obtain ⟨A, c, B, d, rfl, p1, p2⟩ := h1
  obtain ⟨A2, c2, B2, d2, rfl, q1, q2⟩ := h2
  obtain ⟨W0, hW0, hsz, hle, k0, k1⟩ := new2_le w (.cells #[.bool x.sn, .slice A x.gn.length c, .bool x.sd, .slice B x.gd.length d] 29) (.cells #[.bool y.sn, .slice A2 y.gn.length c2, .bool y.sd, .slice B2 y.gd.length d2] 29)
  obtain ⟨b1, hb1⟩ : ∃ b1, sameW x.sn x.gn y.sn y.gn = b1 := ⟨_, rfl⟩
  obtain ⟨b2, hb2⟩ : ∃ b2, sameW x.sd x.gd y.sd y.gd = b2 := ⟨_, rfl⟩
  have hres : sameF x y = (b1 && b2) := by unfold sameF; rw [hb1, hb2]
  rw [hres]
  have r1 := pf_n_SameWhole L L2 x.sn y.sn x.gn y.gn A A2 c c2 W0 (p1.le hle) (q1.le hle)
  rw [hb1] at r1
  obtain ⟨z0, z1, z2, z3⟩ := cells4 k0
  obtain ⟨y0, y1, y2, y3⟩ := cells4 k1
  have hres' := Lib.hid hres
  have hb1' := Lib.hid hb1
  have hb2' := Lib.hid hb2
  have p1' := Lib.hid p1
  have p2' := Lib.hid p2
  have q1' := Lib.hid q1
  have q2' := Lib.hid q2
  have hle' := Lib.hid hle
  have k0' := Lib.hid k0
  have k1' := Lib.hid k1
  have r1' := Lib.hid r1
  have hW0' := Lib.hid hW0
  clear hW0 r1 k1 k0 hle q2 q1 p2 p1 hb2 hb1 hres
  go_enter Try.func8, Try.ntmps8
  go_wp2_with (fail)
  go_at_call 32
  rw [hW0'.out]
  refine r1'.out.mono ?_
  rintro e W1 ⟨rfl, hle1⟩
  clear z0 z1 z2 z3 y0 y1 y2 y3
  have k01 := (hle1.block w.heap.size (by omega)).trans k0'.out
  have k11 := (hle1.block (w.heap.size + 1) (by omega)).trans k1'.out
  obtain ⟨z0, z1, z2, z3⟩ := cells4 k01
  obtain ⟨y0, y1, y2, y3⟩ := cells4 k11
  have hle2 := hle'.out.trans hle1
  have r2 := pf_n_SameWhole L L2 x.sd y.sd x.gd y.gd B B2 d d2 W1 (p2'.out.le hle2) (q2'.out.le hle2)
  rw [hb2'.out] at r2
  have hle1' := Lib.hid hle1
  have hle2' := Lib.hid hle2
  have k01' := Lib.hid k01
  have k11' := Lib.hid k11
  have r2' := Lib.hid r2
  clear r2 k11 k01 hle2 hle1
  cases b1
  · go_wp2
    go_ret
    exact ⟨by simp, hle2'.out⟩
  · go_wp2_with (fail)
    go_at_call 32
    refine r2'.out.mono ?_
    rintro e W2 ⟨rfl, hle3⟩
    have hle3' := Lib.hid hle3
    clear hle3
    go_wp2
    go_ret
    exact ⟨by simp, hle2'.out.trans hle3'.out⟩
end Go.Proofs.Ytbikpadjmmgpcaa
namespace Go.Proofs.Ytbikpadjmmgpcaa
open Go.RowKit Go.Shelf
set_option linter.unusedVariables false
set_option linter.unusedSimpArgs false
theorem new4_le (w : World) (o0 o1 o2 o3 : Obj) : ∃ W0, (((w.alloc o0).alloc o1).alloc o2).alloc o3 = W0 ∧ W0.heap.size = w.heap.size + 4 ∧ Le w W0 ∧ W0.heap[w.heap.size]? = some o0 ∧ W0.heap[w.heap.size + 1]? = some o1 ∧ W0.heap[w.heap.size + 1 + 1]? = some o2 ∧ W0.heap[w.heap.size + 1 + 1 + 1]? = some o3 := by
  obtain ⟨W1, hW1, hs1, hle1, k0, k1, k2⟩ := new3_le w o0 o1 o2
  rw [hW1]
  refine ⟨_, rfl, by rw [World.size_alloc]; omega, hle1.trans (le_alloc _ _), ?_, ?_, ?_, ?_⟩
  · exact ((le_alloc W1 o3).block _ (by omega)).trans k0
  · exact ((le_alloc W1 o3).block _ (by omega)).trans k1
  · exact ((le_alloc W1 o3).block _ (by omega)).trans k2
  · have : w.heap.size + 1 + 1 + 1 = W1.heap.size := by omega
    rw [this]; unfold World.alloc; exact Array.getElem?_push_size
def QForm (v : Value) : Prop := ∃ s A n c B m d, v = .agg #[.bool s, .slice A n c, .slice B m d]
theorem RatL.qform {L : Nat → Prop} {k : IntKind} {w : World} {v : Value} {r : Rat} (h : RatL L k w v r) : QForm v := by
  obtain ⟨A1, c1, A2, c2, rfl, -, -⟩ := h.form
  exact ⟨_, _, _, _, _, _, _, rfl⟩
noncomputable def okA (x : FracA) : Bool := x.rat?.isSome
def BothPost (L : Nat → Prop) (x y : FracA) (w : World) (e : Ending) (w' : World) : Prop := Le w w' ∧ ∃ vx vy, e = .returned (.tuple #[vx, vy, .bool (okA x && okA y)]) ∧ QForm vx ∧ QForm vy ∧ (∀ r, x.rat? = some r → RatL L .i64 w' vx r) ∧ (∀ r, y.rat? = some r → RatL L .i64 w' vy r)
theorem InPost.res {L : Nat → Prop} {x : FracA} {w : World} {e : Ending} {w' : World} (h : InPost L x w e w') : Le w w' ∧ ∃ v, e = .returned (.tuple #[v, .bool (okA x)]) ∧ QForm v ∧ ∀ r, x.rat? = some r → RatL L .i64 w' v r := by
  obtain ⟨hle, ⟨r, hr, v, rfl, hv⟩ | ⟨hr, rfl⟩⟩ := h
  · refine ⟨hle, v, by unfold okA; rw [hr]; rfl, hv.qform, fun r' hr' => ?_⟩
    rw [hr] at hr'
    injection hr' with hr'
    subst hr'
    exact hv
  · exact ⟨hle, zeroQ, by unfold okA; rw [hr]; rfl, ⟨_, _, _, _, _, _, _, rfl⟩, fun r' hr' => by rw [hr] at hr'; cases hr'⟩
theorem RatL.box3 {L : Nat → Prop} {k : IntKind} {W : World} {v u0 u1 u2 : Value} {b0 : Bool} {A1 A2 : Option Addr} {n1 c1 n2 c2 B : Nat} {r : Rat} {t : TypeId} (h : RatL L k W v r) (hk : W.heap[B]? = some (Obj.cells #[.bool b0, .slice A1 n1 c1, .slice A2 n2 c2] t)) :
    RatL L k (((W.setCell ⟨B, 0, none⟩ u0).setCell ⟨B, 1, none⟩ u1).setCell ⟨B, 2, none⟩ u2) v r := by
  obtain ⟨vn, vd, e, h1, h2⟩ := h
  exact ⟨vn, vd, e, h1.box3 hk, h2.box3 hk⟩
end Go.Proofs.Ytbikpadjmmgpcaa
namespace Go.Proofs.Ytbikpadjmmgpcaa
open Go.RowKit Go.Shelf
set_option linter.unusedVariables false
set_option linter.unusedSimpArgs false
/-- A fraction, or the number of an error. -/
def IsRes (L : Nat → Prop) (w : World) (v : Value) (c : Int) : Except Int Rat → Prop
  | .ok r => FracL L w v r ∧ c = 0
  | .error x => v = zeroF ∧ c = x
def ResPost (L : Nat → Prop) (res : Except Int Rat) (w : World) (e : Ending) (w' : World) : Prop := Le w w' ∧ ∃ v c, e = .returned (.tuple #[v, .int .i64 c]) ∧ IsRes L w' v c res
open Classical in
noncomputable def outR (r : Rat) : Except Int Rat := if Rsz r 40 then .ok r else .error 12
noncomputable def opR (f : Rat → Rat → Except Int Rat) (x y : FracA) : Except Int Rat :=
  match x.rat?, y.rat? with
  | some a, some b => f a b
  | _, _ => .error 10
noncomputable def divE (a b : Rat) : Except Int Rat := if b = 0 then .error 11 else outR (a / b)
noncomputable def ratioR (n d : Int) : Except Int Rat := if d = 0 then .error 11 else outR ((n : Rat) / (d : Rat))
noncomputable def cmpV (x y : FracA) : Int :=
  match x.rat?, y.rat? with
  | some a, some b => rsgn (a - b)
  | _, _ => 0
noncomputable def okE (b : Bool) : Int := if b then 0 else 10
theorem opR_some {f : Rat → Rat → Except Int Rat} {x y : FracA} {a b : Rat} (h1 : x.rat? = some a) (h2 : y.rat? = some b) : opR f x y = f a b := by unfold opR; rw [h1, h2]
theorem opR_none {f : Rat → Rat → Except Int Rat} {x y : FracA} (h : (okA x && okA y) = false) : opR f x y = .error 10 := by
  unfold opR
  unfold okA at h
  cases h1 : x.rat? with
  | none => rfl
  | some a =>
    cases h2 : y.rat? with
    | none => rfl
    | some b => rw [h1, h2] at h; cases h
theorem cmpV_some {x y : FracA} {a b : Rat} (h1 : x.rat? = some a) (h2 : y.rat? = some b) : cmpV x y = rsgn (a - b) := by unfold cmpV; rw [h1, h2]
theorem cmpV_none {x y : FracA} (h : (okA x && okA y) = false) : cmpV x y = 0 := by
  unfold cmpV
  unfold okA at h
  cases h1 : x.rat? with
  | none => rfl
  | some a =>
    cases h2 : y.rat? with
    | none => rfl
    | some b => rw [h1, h2] at h; cases h
theorem okA_both {x y : FracA} (h : (okA x && okA y) = true) : ∃ a b, x.rat? = some a ∧ y.rat? = some b := by
  unfold okA at h
  simp only [Bool.and_eq_true, Option.isSome_iff_exists] at h
  obtain ⟨⟨a, h1⟩, b, h2⟩ := h
  exact ⟨a, b, h1, h2⟩
theorem outR_ok {r : Rat} (h : Rsz r 40) : outR r = .ok r := by unfold outR; rw [if_pos h]
theorem outR_no {r : Rat} (h : ¬ Rsz r 40) : outR r = .error 12 := by unfold outR; rw [if_neg h]
/-- What a result's value looks like. -/
def FForm (v : Value) : Prop := ∃ s A n c s' B m d, v = .agg #[.bool s, .slice A n c, .bool s', .slice B m d]
theorem IsRes.form {L : Nat → Prop} {w : World} {v : Value} {c : Int} {res : Except Int Rat} (h : IsRes L w v c res) : FForm v := by
  cases res with
  | ok r => obtain ⟨⟨A, c, B, d, rfl, -, -⟩, -⟩ := h; exact ⟨_, _, _, _, _, _, _, _, rfl⟩
  | error x => obtain ⟨rfl, -⟩ := h; exact ⟨_, _, _, _, _, _, _, _, rfl⟩
theorem IsRes.le {L : Nat → Prop} {w W : World} {v : Value} {c : Int} {res : Except Int Rat} (h : IsRes L w v c res) (hb : Le w W) : IsRes L W v c res := by
  cases res with
  | ok r => exact ⟨h.1.le hb, h.2⟩
  | error x => exact h
theorem FracL.box4 {L : Nat → Prop} {W : World} {v u0 u1 u2 u3 : Value} {b0 b1 : Bool} {A1 A2 : Option Addr} {n1 c1 n2 c2 B : Nat} {r : Rat} {t : TypeId} (h : FracL L W v r) (hk : W.heap[B]? = some (Obj.cells #[.bool b0, .slice A1 n1 c1, .bool b1, .slice A2 n2 c2] t)) :
    FracL L ((((W.setCell ⟨B, 0, none⟩ u0).setCell ⟨B, 1, none⟩ u1).setCell ⟨B, 2, none⟩ u2).setCell ⟨B, 3, none⟩ u3) v r := by
  obtain ⟨A, c, B', d, e, h1, h2⟩ := h
  exact ⟨A, c, B', d, e, h1.box4 hk, h2.box4 hk⟩
theorem IsRes.box4 {L : Nat → Prop} {W : World} {v u0 u1 u2 u3 : Value} {b0 b1 : Bool} {A1 A2 : Option Addr} {n1 c1 n2 c2 B : Nat} {c : Int} {res : Except Int Rat} {t : TypeId} (h : IsRes L W v c res) (hk : W.heap[B]? = some (Obj.cells #[.bool b0, .slice A1 n1 c1, .bool b1, .slice A2 n2 c2] t)) :
    IsRes L ((((W.setCell ⟨B, 0, none⟩ u0).setCell ⟨B, 1, none⟩ u1).setCell ⟨B, 2, none⟩ u2).setCell ⟨B, 3, none⟩ u3) v c res := by
  cases res with
  | ok r => exact ⟨h.1.box4 hk, h.2⟩
  | error x => exact h
theorem OutPost.res {L : Nat → Prop} {r : Rat} {w : World} {e : Ending} {w' : World} (h : OutPost L r w e w') : ResPost L (outR r) w e w' := by
  obtain ⟨hle, ⟨hs, v, rfl, hv⟩ | ⟨hs, rfl⟩⟩ := h
  · rw [outR_ok hs]; exact ⟨hle, v, 0, rfl, hv, rfl⟩
  · rw [outR_no hs]; exact ⟨hle, zeroF, 12, rfl, rfl, rfl⟩
theorem FracA.sz {x : FracA} {r : Rat} (h : x.rat? = some r) : Rsz r 40 := (FracA.val h).sz
theorem Rsz.up {r : Rat} {m n : Nat} (h : Rsz r m) (hmn : m ≤ n) : Rsz r n := ⟨Nat.le_trans h.1 hmn, Nat.le_trans h.2 hmn⟩
end Go.Proofs.Ytbikpadjmmgpcaa
