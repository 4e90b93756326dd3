/- Trains of wheels (layer 2, P2.6): the program's search, by contract. -/
import Derived.Test.YtonnnidnalfilaaStd
namespace Go.Proofs.Ytonnnidnalfilaa
open Go.RowKit
set_option linter.unusedVariables false

def first {α : Type} (n : Nat) (f : Nat → Option α) : Option α := (List.range n).findSome? f
theorem first_none {α : Type} (n : Nat) (f : Nat → Option α) (h : ∀ j, j < n → f j = none) : first n f = none := by
  unfold first; rw [List.findSome?_eq_none_iff]; intro x hx; exact h x (List.mem_range.1 hx)
theorem first_some {α : Type} (n : Nat) (f : Nat → Option α) (k : Nat) (hk : k < n) (h : ∀ j, j < k → f j = none) (y : α) (hy : f k = some y) : first n f = some y := by
  unfold first
  obtain ⟨m, rfl⟩ : ∃ m, n = k + (m + 1) := ⟨n - k - 1, by omega⟩
  rw [List.range_add, List.findSome?_append]
  have : (List.range k).findSome? f = none := first_none k f h
  rw [this]
  simp [List.range_succ_eq_map, hy]

def tsearch (ws : List Int) (num den : Int) : Nat → List Int → Int → Int → Option (List Int)
  | 0, l, a, b => if a * den = b * num then some l else none
  | d + 1, l, a, b => first ws.length fun i =>
      if l.any (fun x => (i : Int) == x) then none
      else if l.length % 2 = 0 then tsearch ws num den d (l ++ [(i : Int)]) (a * ws.getD i 0) b
      else tsearch ws num den d (l ++ [(i : Int)]) a (b * ws.getD i 0)

def TsPost (r : Option (List Int)) (w w' : World) (v : Value) : Prop :=
  Below w.heap.size w w' ∧ match r with
    | none => v = .slice none 0 0
    | some l => Ints w' v l ∧ ∃ ad n c, v = .slice (some ad) n c

structure TsEnv (w : World) (bd bn bw bs : Nat) (ws : List Int) (num den : Int) (vw : Value) : Prop where
  hd : w.cell? ⟨bd, 0, none⟩ = some (.int .i64 den)
  hn : w.cell? ⟨bn, 0, none⟩ = some (.int .i64 num)
  hw : w.cell? ⟨bw, 0, none⟩ = some vw
  hs : w.cell? ⟨bs, 0, none⟩ = some (.func (.func 9) #[] #[.pointer (some ⟨bd, 0, none⟩), .pointer (some ⟨bn, 0, none⟩), .pointer (some ⟨bw, 0, none⟩), .pointer (some ⟨bs, 0, none⟩)])
  ld : bd < w.heap.size
  ln : bn < w.heap.size
  lw : bw < w.heap.size
  ls : bs < w.heap.size
  ints : Ints w vw ws

theorem TsEnv.below {w w' : World} {bd bn bw bs : Nat} {ws : List Int} {num den : Int} {vw : Value} (h : TsEnv w bd bn bw bs ws num den vw) (hb : Below w.heap.size w w') : TsEnv w' bd bn bw bs ws num den vw :=
  ⟨(hb.cell (p := ⟨bd, 0, none⟩) h.ld).trans h.hd, (hb.cell (p := ⟨bn, 0, none⟩) h.ln).trans h.hn, (hb.cell (p := ⟨bw, 0, none⟩) h.lw).trans h.hw, (hb.cell (p := ⟨bs, 0, none⟩) h.ls).trans h.hs,
   Nat.lt_of_lt_of_le h.ld hb.size, Nat.lt_of_lt_of_le h.ln hb.size, Nat.lt_of_lt_of_le h.lw hb.size, Nat.lt_of_lt_of_le h.ls hb.size, h.ints.below hb⟩

theorem search_leaf (ws : List Int) (num den : Int) (l : List Int) (v : Value) (a b size : Int) (w : World) (bd bn bw bs : Nat) (vw : Value) (he : TsEnv w bd bn bw bs ws num den vw)
    (hl : Ints w v l) (h0 : 0 < l.length) (hsz : size = l.length) (ha : 0 ≤ a ∧ a ≤ 10000000000) (hb : 0 ≤ b ∧ b ≤ 10000000000) (hnum : 0 ≤ num ∧ num ≤ 96) (hden : 0 ≤ den ∧ den ≤ 96) :
    Calls Try.prog 9 #[v, .int .i64 size, .int .i64 a, .int .i64 b, .pointer (some ⟨bd, 0, none⟩), .pointer (some ⟨bn, 0, none⟩), .pointer (some ⟨bw, 0, none⟩), .pointer (some ⟨bs, 0, none⟩)] w fun e w' =>
      ∃ v', e = .returned v' ∧ TsPost (tsearch ws num den 0 l a b) w w' v' := by
  have hl0 := Lib.hid hl
  obtain ⟨A, c, rfl, hlc, hcm, _, hr⟩ := hl
  obtain ⟨bb, off, rfl, _⟩ := hr h0
  unfold maxLen at hcm
  have hcd := he.hd
  have hcn := he.hn
  have hq : ((l.length : Int) == size) = true := by simp [hsz]
  clear hsz hr he
  have m1 : 0 ≤ a * den ∧ a * den ≤ 960000000000 := ⟨Int.mul_nonneg ha.1 hden.1, Int.le_trans (Int.mul_le_mul ha.2 hden.2 hden.1 (by omega)) (by omega)⟩
  have m2 : 0 ≤ b * num ∧ b * num ≤ 960000000000 := ⟨Int.mul_nonneg hb.1 hnum.1, Int.le_trans (Int.mul_le_mul hb.2 hnum.2 hnum.1 (by omega)) (by omega)⟩
  obtain ⟨m11, m12⟩ := m1
  obtain ⟨m21, m22⟩ := m2
  by_cases hab : a * den = b * num
  · have hT : tsearch ws num den 0 l a b = some l := by simp [tsearch, hab]
    rw [hT]
    have hab' : (a * den == b * num) = true := by simpa using hab
    have hab2 : (a * den != b * num) = false := by simpa using hab
    clear hab hT
    go_enter Try.func9, Try.ntmps9
    go_wp2
    go_ret
    exact ⟨_, rfl, Below.refl _ _, hl0.out, _, _, _, rfl⟩
  · have hT : tsearch ws num den 0 l a b = none := by simp [tsearch, hab]
    rw [hT]
    have hab' : (a * den == b * num) = false := by simpa using hab
    have hab2 : (a * den != b * num) = true := by simpa using hab
    clear hab hT
    go_enter Try.func9, Try.ntmps9
    go_wp2
    go_ret
    exact ⟨_, rfl, Below.refl _ _, rfl⟩

theorem tr_step (d : Nat) (y t : Int) (ht : 12 ≤ t ∧ t ≤ 200) (hy : 0 ≤ y) (hy2 : y * 200 ^ (d + 1) ≤ 10000000000) :
    (0 ≤ y * t ∧ y * t * 200 ^ d ≤ 10000000000) ∧ y * t ≤ 10000000000 ∧ y * 200 ^ d ≤ 10000000000 := by
  have hp200 : (1 : Int) ≤ 200 ^ d := by have := Int.pow_pos (n := 200) (m := d) (by omega); omega
  have e0 : y * 200 ^ (d + 1) = y * 200 * 200 ^ d := by rw [Int.pow_succ, Int.mul_comm (200 ^ d) 200, ← Int.mul_assoc]
  rw [e0] at hy2
  have e1 : 0 ≤ y * t := Int.mul_nonneg hy (by omega)
  have e2 : y * t * 200 ^ d ≤ 10000000000 := Int.le_trans (Int.mul_le_mul_of_nonneg_right (Int.mul_le_mul_of_nonneg_left ht.2 hy) (by omega)) hy2
  refine ⟨⟨e1, e2⟩, ?_, ?_⟩
  · have := Int.mul_le_mul_of_nonneg_left hp200 e1
    omega
  · have h1 : y ≤ y * 200 := by omega
    have := Int.mul_le_mul_of_nonneg_right h1 (show (0 : Int) ≤ 200 ^ d by omega)
    omega

set_option maxHeartbeats 1600000 in
theorem search_any (ws : List Int) (num den : Int) (hws : ∀ x ∈ ws, 12 ≤ x ∧ x ≤ 200) (hwl : ws.length ≤ 16) (hnum : 0 ≤ num ∧ num ≤ 96) (hden : 0 ≤ den ∧ den ≤ 96) (d : Nat) :
    ∀ (l : List Int) (v : Value) (a b size : Int) (w : World) (bd bn bw bs : Nat) (vw : Value) (he : TsEnv w bd bn bw bs ws num den vw)
      (hl : Ints w v l) (h0 : 0 < l.length + d) (hsz : size = l.length + d) (hll : l.length + d ≤ 4) (ha : 0 ≤ a ∧ a * 200 ^ d ≤ 10000000000) (hb : 0 ≤ b ∧ b * 200 ^ d ≤ 10000000000),
    Calls Try.prog 9 #[v, .int .i64 size, .int .i64 a, .int .i64 b, .pointer (some ⟨bd, 0, none⟩), .pointer (some ⟨bn, 0, none⟩), .pointer (some ⟨bw, 0, none⟩), .pointer (some ⟨bs, 0, none⟩)] w fun e w' =>
      ∃ v', e = .returned v' ∧ TsPost (tsearch ws num den d l a b) w w' v' := by
  induction d with
  | zero =>
    intro l v a b size w bd bn bw bs vw he hl h0 hsz hll ha hb
    exact search_leaf ws num den l v a b size w bd bn bw bs vw he hl (by omega) (by simpa using hsz) (by simpa using ha) (by simpa using hb) hnum hden
  | succ d ih =>
    intro l v a b size w bd bn bw bs vw he hl h0 hsz hll ha hb
    have hl0 := Lib.hid hl
    have he0 := Lib.hid he
    obtain ⟨T, hT0⟩ : ∃ T, T = tsearch ws num den (d + 1) l a b := ⟨_, rfl⟩
    rw [← hT0]
    have hT := Lib.hid hT0
    clear hT0
    obtain ⟨A, c, rfl, hlc, hcm, _, hr⟩ := hl
    unfold maxLen at hcm
    have hq : ((l.length : Int) == size) = false := by simp [hsz]; omega
    have hsz' := Lib.hid hsz
    have ha' := Lib.hid ha
    have hb' := Lib.hid hb
    obtain ⟨vA, vc, rfl, hwlc, hwcm, _, hwr⟩ := he.ints
    have hcw := he.hw
    unfold maxLen at hwcm
    clear hr he hsz ha hb
    go_enter Try.func9, Try.ntmps9
    go_wp2
    go_loopw [32] (fun i wr => ∃ k : Nat, k ≤ ws.length ∧ i = .int .i64 k ∧ Below w.heap.size w wr ∧ Hid (∀ j, j < k → (if l.any (fun x => (j : Int) == x) then none
      else if l.length % 2 = 0 then tsearch ws num den d (l ++ [(j : Int)]) (a * ws.getD j 0) b
      else tsearch ws num den d (l ++ [(j : Int)]) a (b * ws.getD j 0)) = none)) (fun i _ => ws.length - (intOf i).toNat)
    case atStart => exact ⟨0, Nat.zero_le _, rfl, Below.refl _ _, fun j h => absurd h (by omega)⟩
    case round =>
      obtain ⟨k, hk, rfl, hbw, hbefore⟩ := hrel
      by_cases hlt : k < ws.length
      · obtain ⟨vb, voff, rfl, hvb, hvc⟩ := hwr (by omega)
        have hck := (hbw.cell (p := ⟨vb, voff + k, none⟩) hvb).trans (hvc k hlt)
        have ht := hws _ (List.getElem_mem hlt)
        generalize hx : ws[k] = t at hck ht
        have hck : wr.cell? ⟨vb, voff + k, none⟩ = some (.int .i64 t) := hck
        have hxk : t = ws.getD k 0 := by simp [hlt, hx]
        have hx' := Lib.hid hxk
        have her := Lib.hid (he0.out.below hbw)
        have hcs := her.out.hs
        have hls := her.out.ls
        have hlr := Lib.hid (hl0.out.below hbw)
        obtain ⟨ht1, ht2⟩ := ht
        have SA := Lib.hid (tr_step d a t ⟨ht1, ht2⟩ ha'.out.1 ha'.out.2)
        have SB := Lib.hid (tr_step d b t ⟨ht1, ht2⟩ hb'.out.1 hb'.out.2)
        obtain ⟨⟨sa1, -⟩, sa2, -⟩ := SA.out
        obtain ⟨⟨sb1, -⟩, sb2, -⟩ := SB.out
        clear hvc hwr hx hxk hcw
        by_cases hany : (l.any fun x => (k : Int) == x) = true
        · go_wp2_with (first | (go_at_call 10; refine (pf_Contains k _ l _ hlr.out).mono ?_; rintro e w' ⟨rfl, rfl⟩))
          go_roundw
          case rel => exact ⟨k + 1, by omega, by go_num, hbw, fun j hj => by
            by_cases hjk : j = k
            · subst hjk; rw [if_pos hany]
            · exact hbefore.out j (by omega)⟩
          case measure => simp [intOf]; omega
        · have hany' : (l.any fun x => (k : Int) == x) = false := Bool.eq_false_iff.2 hany
          clear hany
          by_cases hpar : (l.length : Int) % 2 = 0
          all_goals
            go_wp2_with (first | (go_at_call 10; refine (pf_Contains k _ l _ hlr.out).mono ?_; rintro e w' ⟨rfl, rfl⟩))
            go_region_held3 (fun w' => w'.cell? ⟨bs, 0, none⟩ = some (.func (.func 9) #[] #[.pointer (some ⟨bd, 0, none⟩), .pointer (some ⟨bn, 0, none⟩), .pointer (some ⟨bw, 0, none⟩), .pointer (some ⟨bs, 0, none⟩)]))
              (first | go_keep | (first | exact (hB3.cell (p := ⟨bs, 0, none⟩) hls).trans hcs | exact (hB2.cell (p := ⟨bs, 0, none⟩) hls).trans hcs | exact (hB1.cell (p := ⟨bs, 0, none⟩) hls).trans hcs))
              (first
                | (go_at_call 11; refine (pf_Clone _ l _ ?_ ?_).mono ?_; exact hlr.out.below (by first | exact (Below.refl _ _).drew | exact ((Below.refl _ _).alloc (Nat.le_refl _) _).drew); omega; rintro e w1 ⟨v1, rfl, hb1, hown1, -⟩; have ho1 := own_base hown1 (base' := wr.heap.size) (by simp); have hB1 : Below wr.heap.size wr w1 := (by first | exact ((Below.refl _ _).drew).trans (hb1.mono (by simp)) | exact (((Below.refl _ _).alloc (Nat.le_refl _) _).drew).trans (hb1.mono (by simp))); have hB1z := hB1.size)
                | (refine step_appI rfl _ _ 22 rfl wr.heap.size 3 elemInt v1 l rfl (by first | exact ho1 | exact ho1.alloc _) (.slice (some ⟨_, 0, none⟩) 1 1) [(k : Int)] rfl (by first | exact one_newI _ _ _ | exact (one_newD _ _ _).below hb1) (by simp; omega) (by first | omega | (simp; omega)) ?_; intro v2 w2 ho2 hb2 hg2 _; have hB2 : Below wr.heap.size wr w2 := (by first | exact hB1.trans hb2 | exact (hB1.alloc (by omega) _).trans hb2); have hB2z := hB2.size)
                | (go_at_call 9; refine (ih (l ++ [(k : Int)]) v2 _ _ size w2 bd bn bw bs _ (her.out.below hB2) (Arr.of_own ho2) (by simp; omega) (by have := hsz'.out; simp; omega) (by simp; omega) ?_ ?_).mono ?_; (first | exact SA.out.1 | exact ⟨ha'.out.1, SA.out.2.2⟩); (first | exact SB.out.1 | exact ⟨hb'.out.1, SB.out.2.2⟩); rintro e w3 ⟨v3, rfl, hpost⟩; have hB3 := hB2.trans (hpost.1.mono (by omega))))
            all_goals
              obtain ⟨hpb, hpr⟩ := hpost
              generalize hR : tsearch ws num den d _ _ _ = R at hpr
              have hR' := Lib.hid hR
              clear hR
              have hval : (if l.any (fun x => (k : Int) == x) then none else if l.length % 2 = 0 then tsearch ws num den d (l ++ [(k : Int)]) (a * ws.getD k 0) b else tsearch ws num den d (l ++ [(k : Int)]) a (b * ws.getD k 0)) = R := by
                rw [if_neg (by rw [hany']; decide)]
                first
                  | (rw [if_pos (by omega)]; rw [← hx'.out]; exact hR'.out)
                  | (rw [if_neg (by omega)]; rw [← hx'.out]; exact hR'.out)
              have hval' := Lib.hid hval
              clear hval
              cases R with
              | none =>
                obtain rfl : v3 = .slice none 0 0 := hpr
                have hne := fun W => run_neq_slice_nil_any (P := Try.prog) W 22 3 none 0 0 0 0 Try.underlying22
                go_wp2
                go_roundw
                case rel => exact ⟨k + 1, by omega, by go_num, (hbw.trans (hB3.mono hbw.size)), fun j hj => by
                  by_cases hjk : j = k
                  · subst hjk; exact hval'.out
                  · exact hbefore.out j (by omega)⟩
                case measure => simp [intOf]; omega
              | some r =>
                obtain ⟨hri, ad, n, c', rfl⟩ := hpr
                have hri' := Lib.hid hri
                clear hri
                have hne := fun W => run_neq_slice_nil_any (P := Try.prog) W 22 3 (some ad) n c' 0 0 Try.underlying22
                go_wp2
                go_ret
                refine ⟨_, rfl, (hbw.trans (hB3.mono hbw.size)), ?_⟩
                rw [hT.out]
                unfold tsearch
                rw [first_some _ _ k hlt (fun j hj => hbefore.out j hj) r hval'.out]
                exact ⟨hri'.out, _, _, _, rfl⟩
      · go_wp2
        go_ret
        refine ⟨_, rfl, hbw, ?_⟩
        rw [hT.out]
        unfold tsearch
        rw [first_none _ _ fun j hj => hbefore.out j (by omega)]
        rfl
end Go.Proofs.Ytonnnidnalfilaa
