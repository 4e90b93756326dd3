/- pattern.Fit: the shortest list of shifts of some phases. barleycornref04.Fit. -/
import Derived.Test.YtbikpadjmmgpcaaGreatBoxKit
import Derived.Shelf.RegionOpen
import Derived.Deep.DrawnRows
import Derived.StillTailTactics
import Derived.Lib.Hide
namespace Go.Proofs.YtbikpadjmmgpcaaGreat
open Go.RowKit Go.Lib
set_option linter.unusedVariables false
set_option linter.unusedSimpArgs false
attribute [local go_sem] Oper.semAt_some
attribute [local go_sem ↓] Go.wp_at_zero Go.wp_at_succ
/-- The shifts between phases that follow each other. -/
def fitD (l : List Int) (n : Int) : List Int := (List.range (l.length - 1)).map fun (i : Nat) => (l.getD (i + 1) 0 - l.getD i 0) % n
theorem fitD_length (l : List Int) (n : Int) : (fitD l n).length = l.length - 1 := by simp [fitD]
theorem fitD_get (l : List Int) (n : Int) (i : Nat) (h : i < l.length - 1) : (fitD l n)[i]'(by rw [fitD_length]; exact h) = (l.getD (i + 1) 0 - l.getD i 0) % n := by simp [fitD]
/-- Whether the first k + 1 shifts, again and again, are all. -/
def fitOk (d : List Int) (k : Nat) : Bool := d.drop (k + 1) == d.take (d.length - k - 1)
def fitIn (x n : Int) : Bool := decide (0 ≤ x) && decide (x < n)
def fitArg (l : List Int) (n : Int) : Bool := within n 3 96 && (decide (2 ≤ l.length) && !l.any (fun x => !fitIn x n))
def fitK (d : List Int) (m : Nat) : Option Nat := (List.range m).find? (fitOk d)
theorem fitK_none (d : List Int) (m : Nat) (h : ∀ j, j < m → fitOk d j = false) : fitK d m = none := by
  unfold fitK
  rw [List.find?_eq_none]
  intro x hx
  rw [h x (List.mem_range.1 hx)]
  simp
theorem fitK_hit (d : List Int) (m k : Nat) (hk : k < m) (h : fitOk d k = true) (hn : ∀ j, j < k → fitOk d j = false) : fitK d m = some k := by
  unfold fitK
  obtain ⟨r, rfl⟩ : ∃ r, m = k + (1 + r) := ⟨m - k - 1, by omega⟩
  rw [List.range_add, List.find?_append]
  have h1 : (List.range k).find? (fitOk d) = none := fitK_none d k hn
  rw [h1, Option.none_or]
  simp [List.range_add, h]
def fitE (l : List Int) (n : Int) : Int := if 200 < l.length then 4 else if fitArg l n then (if (fitK (fitD l n) (min 12 (l.length - 1))).isSome then 0 else 4) else 2
def fitL (l : List Int) (n : Int) : List Int := if 200 < l.length then [] else if fitArg l n then (match fitK (fitD l n) (min 12 (l.length - 1)) with | some k => (fitD l n).take (k + 1) | none => []) else []
theorem pf_fit_odd (x n : Int) (B : Nat) (w : World) (hc : w.cell? ⟨B, 0, none⟩ = some (.int .i64 n)) :
    Calls Tryz.prog 16 (#[.int .i64 x] ++ #[.pointer (some ⟨B, 0, none⟩)]) w fun e w' => e = .returned (.bool (!fitIn x n)) ∧ w = w' := by
  show Calls Tryz.prog 16 #[.int .i64 x, .pointer (some ⟨B, 0, none⟩)] w _
  unfold fitIn
  by_cases h0 : x < 0
  · have h1 : ¬ 0 ≤ x := by omega
    go_enter Tryz.func16, Tryz.ntmps16
    go_wp2
    go_ret
    exact ⟨by simp [h1], rfl⟩
  · have h1 : 0 ≤ x := by omega
    by_cases h2 : n ≤ x
    · have h3 : ¬ x < n := by omega
      go_enter Tryz.func16, Tryz.ntmps16
      go_wp2
      go_ret
      exact ⟨by simp [h3], rfl⟩
    · have h3 : x < n := by omega
      go_enter Tryz.func16, Tryz.ntmps16
      go_wp2
      go_ret
      exact ⟨by simp [h1, h3], rfl⟩
set_option maxRecDepth 100000 in
set_option maxHeartbeats 4000000 in
theorem pf_pat_Fit (v : Value) (l : List Int) (n : Int) (w : World) (hv : Ints w v l) :
    Calls Tryz.prog 5 #[v, .int .i64 n] w fun e w' => ∃ v', e = .returned (.tuple #[v', .int .i64 (fitE l n)]) ∧ Below w.heap.size w w' ∧ w'.ownsRow w.heap.size 3 1 v' (fitL l n).length ((fitL l n).map vint) := by
  have hv0 := Lib.hid hv
  obtain ⟨A, c, rfl, hlc, hcm, _, hr⟩ := hv
  unfold maxLen at hcm
  clear hr
  by_cases hbig : 200 < l.length
  · have e1 : fitE l n = 4 := by unfold fitE; rw [if_pos hbig]
    have e2 : fitL l n = [] := by unfold fitL; rw [if_pos hbig]
    rw [e1, e2]
    have e1' := Lib.hid e1
    have e2' := Lib.hid e2
    clear e2 e1
    go_enter Tryz.func5, Tryz.ntmps5
    go_wp2
    go_ret2
    exact ⟨_, rfl, alc1 _ _, World.ownsRow_nil _ _ _ _⟩
  · have hcont : ∀ W, W.cell? ⟨w.heap.size, 0, none⟩ = some (.int .i64 n) → Below w.heap.size w W → Calls Tryz.prog 18 #[.slice A l.length c, .func (.func 16) #[] #[.pointer (some ⟨w.heap.size, 0, none⟩)]] W fun e w' => e = .returned (.bool (l.any (fun x => !fitIn x n))) ∧ W = w' := fun W h1 h2 => pf_ContainsFunc _ _ _ _ l W (hv0.out.below h2) (enters_of Tryz.func16 (by kernel_rfl) rfl) (fun x _ => pf_fit_odd x n _ W h1)
    obtain ⟨X1, hX1⟩ : ∃ X, within n 3 96 = X := ⟨_, rfl⟩
    obtain ⟨X2, hX2⟩ : ∃ X, l.any (fun x => !fitIn x n) = X := ⟨_, rfl⟩
    rw [hX2] at hcont
    by_cases hok : fitArg l n = true
    · have hX : X1 = true ∧ 2 ≤ l.length ∧ X2 = false := by
        unfold fitArg at hok
        rw [hX1, hX2] at hok
        simpa using hok
      obtain ⟨rfl, hl2, rfl⟩ := hX
      have hn := within_iff.1 hX1
      have hin : ∀ i, i < l.length → 0 ≤ l.getD i 0 ∧ l.getD i 0 < n := fun i hi => by
        have h1 := List.any_eq_false.1 hX2 l[i] (List.getElem_mem hi)
        unfold fitIn at h1
        simp only [List.getD_eq_getElem?_getD, List.getElem?_eq_getElem hi, Option.getD_some]
        simpa using h1
      obtain ⟨m, hm⟩ : ∃ m, l.length = m + 1 := ⟨l.length - 1, by omega⟩
      obtain ⟨M, hM⟩ : ∃ M, min 12 m = M := ⟨_, rfl⟩
      have hfull : fitE l n = (if (fitK (fitD l n) M).isSome then 0 else 4) ∧ fitL l n = (match fitK (fitD l n) M with | some k => (fitD l n).take (k + 1) | none => []) := by
        unfold fitE fitL
        rw [if_neg hbig, if_neg hbig, if_pos hok, if_pos hok, hm, Nat.add_sub_cancel, hM]
        exact ⟨rfl, rfl⟩
      have hmiss : (∀ j, j < M → fitOk (fitD l n) j = false) → fitE l n = 4 ∧ fitL l n = [] := fun h => by
        rw [hfull.1, hfull.2, fitK_none _ _ h]
        exact ⟨rfl, rfl⟩
      have hhit : ∀ k, k < M → fitOk (fitD l n) k = true → (∀ j, j < k → fitOk (fitD l n) j = false) → fitE l n = 0 ∧ fitL l n = (fitD l n).take (k + 1) := fun k h1 h2 h3 => by
        rw [hfull.1, hfull.2, fitK_hit _ _ _ h1 h2 h3]
        exact ⟨rfl, rfl⟩
      have hDl := fitD_length l n
      have hDg : ∀ i (h : i < m), (fitD l n)[i]? = some ((l.getD (i + 1) 0 - l.getD i 0) % n) := fun i h => by
        rw [List.getElem?_eq_getElem (by rw [hDl]; omega), fitD_get l n i (by omega)]
      rw [hm, Nat.add_sub_cancel] at hDl
      generalize fitD l n = D at hfull hmiss hhit hDl hDg
      clear hfull
      obtain ⟨la, lo, c', heq, hla, -, -, hcl⟩ := Ints.cells hv0.out (by omega)
      injection heq with a1 a2 a3
      subst a1 a3
      clear a2
      have hcg : ∀ i, i < m + 1 → w.cell? ⟨la, lo + i, none⟩ = some (.int .i64 (l.getD i 0)) := fun i hi => by
        rw [hcl i (by omega)]
        simp [List.getElem?_eq_getElem (show i < l.length by omega)]
      have r1 : ∀ W, (Instr.slice 22 (.slice (some ⟨la, lo, none⟩) l.length c) (some (.int .i64 1)) none none).run Tryz.prog W = .ok (.slice (some ⟨la, lo + 1, none⟩) m (c - 1)) W := fun W => by
        have h := run_cut_l (elemInt : Elem1 Tryz.prog 22 3 (.int .i64 0) 8) (some ⟨la, lo, none⟩) l.length c 1 (by omega) W
        rw [hm, Nat.add_sub_cancel] at h
        have e0 : cutA (some ⟨la, lo, none⟩) c 1 = some ⟨la, lo + 1, none⟩ := by
          unfold cutA
          rw [if_neg (by omega)]
          simp [Addr.add]
        rw [e0] at h
        rw [hm]
        exact h
      have hl2n : ¬ l.length < 2 := by omega
      have hc1 : (1 : Int) ≤ (l.length : Int) := by omega
      have hbx := Box.start w (.cells #[.int .i64 n] 3)
      have hmb : m ≤ 199 := by omega
      have hX1' := Lib.hid hX1
      have hX2' := Lib.hid hX2
      have hin' := Lib.hid hin
      have hM' := Lib.hid hM
      have hmiss' := Lib.hid hmiss
      have hhit' := Lib.hid hhit
      have hDl' := Lib.hid hDl
      have hDg' := Lib.hid hDg
      have hcl' := Lib.hid hcl
      have hcg' := Lib.hid hcg
      have hcont' := Lib.hid hcont
      have hok' := Lib.hid hok
      have hm' := Lib.hid hm
      clear hm hok hcont hcg hcl hDg hDl hhit hmiss hM hin hX2 hX1
      go_enter Tryz.func5, Tryz.ntmps5
      go_wp2_with (first | (go_at_call 17; ((with_reducible refine (pf_within_pattern _ _ _ _).mono ?_); rintro e w' ⟨rfl, rfl⟩; rw [hX1'.out])) | (go_at_call 18; ((with_reducible refine (hcont'.out _ (World.cell?_alloc_at _ _ _ _ rfl) (alc1 _ _)).mono ?_); rintro e w' ⟨rfl, rfl⟩)))
      go_loopw [33, 7] (fun i r wr => ∃ k : Nat, k ≤ m ∧ i = .int .i64 k ∧ Hid (Box w w.heap.size (.cells #[.int .i64 n] 3) wr) ∧ Hid (wr.ownsRow (w.heap.size + 1) 3 1 r (D.take k).length ((D.take k).map vint))) (fun i _ _ => m - (intOf i).toNat)
      case atStart => exact ⟨0, Nat.zero_le _, rfl, Lib.hid hbx, Lib.hid (World.ownsRow_nil _ _ _ _)⟩
      case round =>
        obtain ⟨k, hk, rfl, hbw, hown⟩ := hrel
        by_cases hlt : k < m
        · have hz := hbw.out.below
          have k1 : wr.cell? ⟨la, lo + 1 + k, none⟩ = some (.int .i64 (l.getD (k + 1) 0)) := by
            rw [show lo + 1 + k = lo + (k + 1) by omega]
            exact (hz.cell (p := ⟨la, lo + (k + 1), none⟩) hla).trans (hcg'.out (k + 1) (by omega))
          have k2 : wr.cell? ⟨la, lo + k, none⟩ = some (.int .i64 (l.getD k 0)) := (hz.cell (p := ⟨la, lo + k, none⟩) hla).trans (hcg'.out k (by omega))
          have k3 := cell0 hbw.out.block
          have hxb := hin'.out (k + 1) (by have := hm'.out; omega)
          have hyb := hin'.out k (by have := hm'.out; omega)
          have hdk := hDg'.out k hlt
          generalize l.getD (k + 1) 0 = x at k1 hxb hdk
          generalize l.getD k 0 = y at k2 hyb hdk
          have hmod := fun W => pf_pat_modulo (x - y) n W (by omega) (by omega) (by unfold Mid; omega)
          have hw1 : IntKind.i64.wrap (x - y) = x - y := IntWalk.i64_in _ (by omega)
          have hlen : (D.take k).length = k := by rw [List.length_take, hDl'.out]; omega
          have htk : D.take (k + 1) = D.take k ++ [(x - y) % n] := by
            rw [List.take_add_one, hdk]; rfl
          generalize (x - y) % n = z at hmod htk
          generalize D.take k = L at hown hlen htk
          have hm1 := hm'.out
          have i1 : (k : Int) < (l.length : Int) := by omega
          have i2 : (k : Int) < (m : Int) := by omega
          have i3 : (0 : Int) ≤ (k : Int) := by omega
          have hdk' := Lib.hid hdk
          have hmod' := Lib.hid hmod
          have htk' := Lib.hid htk
          have hz' := Lib.hid hz
          have hm1' := Lib.hid hm1
          clear hm1 hz htk hmod hdk
          go_wp2
          have hwz : w.heap.size + 1 ≤ wr.heap.size := hbw.out.lt
          have hS : ∀ W, Below (w.heap.size + 1) wr W → W.cell? ⟨la, lo + k, none⟩ = some (.int .i64 y) ∧ W.cell? ⟨w.heap.size, 0, none⟩ = some (.int .i64 n) := fun W h => ⟨(h.cell (p := ⟨la, lo + k, none⟩) (by show la < _; omega)).trans k2, (h.cell (p := ⟨w.heap.size, 0, none⟩) (by show w.heap.size < _; omega)).trans k3⟩
          have hS' := Lib.hid hS
          clear hS
          go_region_held3 (fun w' => w'.cell? ⟨la, lo + k, none⟩ = some (.int .i64 y) ∧ w'.cell? ⟨w.heap.size, 0, none⟩ = some (.int .i64 n)) (go_keep) (first | (go_at_call 19; refine (hmod'.out _).mono ?_; rintro e w' ⟨rfl, rfl⟩) | (refine step_appI rfl (.tmp 38) (.tmp 47) 22 (by rfl) (w.heap.size + 1) 3 elemInt u7 L (by rfl) (hown.out.alloc _) (.slice (some ⟨_, 0, none⟩) 1 1) [z] (by rfl) (by first | exact one_newD _ _ _ | exact one_newI _ _ _) (by simp; omega) (by first | omega | (simp; omega)) ?_; intro v2 w2 ho2 hb2 hg2 _; have hB2 : Below (w.heap.size + 1) wr w2 := (by first | exact (((Below.refl _ _).alloc hwz _).drew).trans hb2 | exact ((Below.refl _ _).alloc hwz _).trans hb2); obtain ⟨t1, t2⟩ := hS'.out _ hB2; have ho2' := Lib.hid ho2; clear ho2 hg2))
          have hb5 := Lib.hid (hbw.out.nextB hB2 (by omega) (by omega))
          have ho3 : Hid (w2.ownsRow (w.heap.size + 1) 3 1 v2 (D.take (k + 1)).length ((D.take (k + 1)).map vint)) := by rw [htk'.out]; exact ho2'
          clear hB2 ho2' t1 t2
          go_wp2
          go_roundw
          case rel => exact ⟨k + 1, by omega, by go_num, hb5, ho3⟩
          case measure => simp [intOf]; omega
        · obtain rfl : m = k := by omega
          have hfin := hown.out
          rw [List.take_of_length_le (by rw [hDl'.out]; omega), hDl'.out] at hfin
          have hnn : u7.ownBlock ≠ none := by
            rcases hfin.2 with ⟨_, h1⟩ | ⟨g, cap, cur, rfl, _⟩
            · have := hm'.out; omega
            · simp [Value.ownBlock]
          obtain ⟨g, cg, rfl, hg1, hg2, hg3, hg4⟩ := own_formS hfin hnn
          unfold maxLen at hg4
          have hbw2 := hbw
          have hfin' := Lib.hid hfin
          clear hown hfin hbw hnn
          generalize wr = W2 at hbw2 hfin' hg2 ⊢
          have hm1 := hm'.out
          rcases Nat.lt_or_ge m 12 with hlt12 | hge12
          · have hMm : m = M := by have := hM'.out; omega
            subst hMm
            have hm1' := Lib.hid hm1
            clear hm1
            go_wp2
            go_loopw [53] (fun i wr => ∃ k : Nat, k ≤ m ∧ i = .int .i64 k ∧ Hid (∃ q, wr = W2.drewN q) ∧ Hid (∀ j, j < k → fitOk D j = false)) (fun i _ => m - (intOf i).toNat)
            case atStart => exact ⟨0, Nat.zero_le _, rfl, Lib.hid ⟨0, rfl⟩, Lib.hid (fun j h => absurd h (by omega))⟩
            case round =>
              obtain ⟨k, hk, rfl, hdr, hno⟩ := hrel
              by_cases hlt : k < m
              · obtain ⟨kk, hkk⟩ : ∃ kk : Nat, m - k - 1 = kk := ⟨_, rfl⟩
                obtain ⟨k1, hk1⟩ : ∃ k1 : Nat, k + 1 = k1 := ⟨_, rfl⟩
                have hbwr : Hid (Box w w.heap.size (.cells #[.int .i64 n] 3) wr) := by obtain ⟨q, rfl⟩ := hdr.out; exact hbw2.out.drewN q
                have hfwr : Hid (wr.ownsRow (w.heap.size + 1) 3 1 (.slice (some ⟨g, 0, none⟩) m cg) m (D.map vint)) := by obtain ⟨q, rfl⟩ := hdr.out; exact hfin'
                have hDi : Ints wr (.slice (some ⟨g, 0, none⟩) m cg) D := by have h := hfwr.out; rw [← hDl'.out] at h ⊢; exact own_ints h
                have s1 := fun W => run_cut_l (elemInt : Elem1 Tryz.prog 22 3 (.int .i64 0) 8) (some ⟨g, 0, none⟩) m cg k1 (by omega) W
                have s2 := fun W => run_cut_h (elemInt : Elem1 Tryz.prog 22 3 (.int .i64 0) 8) (some ⟨g, 0, none⟩) m cg kk (by omega) W
                have s3 := fun W => run_cut_h (elemInt : Elem1 Tryz.prog 22 3 (.int .i64 0) 8) (some ⟨g, 0, none⟩) m cg k1 (by omega) W
                have a1 := hDi.cut k1 m (by omega) (Nat.le_refl _)
                have a2 := hDi.cut 0 kk (Nat.zero_le _) (by omega)
                have a3 := hDi.cut 0 k1 (Nat.zero_le _) (by omega)
                have e0 : cutA (some ⟨g, 0, none⟩) cg 0 = some ⟨g, 0, none⟩ := by
                  unfold cutA
                  split
                  · rfl
                  · simp [Addr.add]
                rw [e0, Nat.sub_zero, Nat.sub_zero, List.drop_zero] at a2 a3
                rw [List.take_of_length_le (by simp [hDl'.out])] at a1
                have hok2 : (D.drop k1 == D.take kk) = fitOk D k := by unfold fitOk; rw [hDl'.out, hkk, hk1]
                generalize cutA (some ⟨g, 0, none⟩) cg k1 = X at s1 a1
                have heq : ∀ q, Calls Tryz.prog 20 #[.slice X (m - k1) (cg - k1), .slice (some ⟨g, 0, none⟩) kk cg] (wr.drewN q) fun e w' => e = .returned (.bool (fitOk D k)) ∧ ∃ n, w' = (wr.drewN q).drewN n := by
                  intro q
                  rw [← hok2]
                  exact pf_Equal _ _ (D.drop k1) (D.take kk) _ a1 a2
                have hclone : ∀ q, Calls Tryz.prog 21 #[.slice (some ⟨g, 0, none⟩) k1 cg] (wr.drewN q) fun e w' => ∃ v', e = .returned v' ∧ Below wr.heap.size wr w' ∧ w'.ownsRow wr.heap.size 3 1 v' (D.take k1).length ((D.take k1).map vint) := by
                  intro q
                  refine (pf_Clone _ (D.take k1) (wr.drewN q) a3 (by rw [List.length_take]; omega)).mono ?_
                  rintro e w' ⟨v', h1, h2, h3, -⟩
                  exact ⟨v', h1, ⟨h2.os, h2.tape, h2.output, h2.size, h2.block⟩, h3⟩
                have hhit2 := hhit'.out k
                have j1 : IntKind.i64.wrap ((k : Int) + 1) = (k1 : Int) := by rw [← hk1, IntWalk.i64_in _ (by omega)]; simp
                obtain ⟨k2, hk2⟩ : ∃ k2 : Nat, kk + 1 = k2 := ⟨_, rfl⟩
                have j2 : IntKind.i64.wrap ((m : Int) - (k : Int)) = (k2 : Int) := by rw [IntWalk.i64_in _ (by omega)]; omega
                have j3 : IntKind.i64.wrap ((k2 : Int) - 1) = (kk : Int) := by rw [IntWalk.i64_in _ (by omega)]; omega
                have i1 : (k1 : Int) ≤ (m : Int) := by omega
                have i2 : (kk : Int) ≤ (cg : Int) := by omega
                have i3 : (k1 : Int) ≤ (cg : Int) := by omega
                clear a1 a2 a3 e0 hok2
                obtain ⟨Fk, hFk⟩ : ∃ b, fitOk D k = b := ⟨_, rfl⟩
                rw [hFk] at heq
                have heq' := Lib.hid heq
                have hclone' := Lib.hid hclone
                have hFk' := Lib.hid hFk
                have hhit2' := Lib.hid hhit2
                have hkk' := Lib.hid hkk
                have hk1' := Lib.hid hk1
                have hk2' := Lib.hid hk2
                have hDi' := Lib.hid hDi
                clear hDi hk2 hk1 hkk hhit2 hFk hclone heq
                go_wp2
                go_quiet ((go_at_call 20; exact Calls.quiet_of (heq'.out _)))
                cases Fk with
                | true =>
                  obtain ⟨e1, e2⟩ := hhit2'.out (by omega) hFk'.out hno.out
                  have e1' := Lib.hid e1
                  have e2' := Lib.hid e2
                  clear e2 e1
                  go_wp2_with (first | (go_at_call 21; ((with_reducible refine (hclone'.out _).mono ?_); rintro e w' ⟨v9, rfl, hb9, ho9⟩)))
                  go_ret2
                  exact ⟨_, by rw [e1'.out]; rfl, (hbwr.out.next hb9).below, by rw [e2'.out, hk1'.out]; exact own_base ho9 hbwr.out.size⟩
                | false =>
                  go_wp2
                  go_roundw
                  case rel => exact ⟨k1, by have := hk1'.out; omega, by go_num, Lib.hid (by obtain ⟨q, hq⟩ := hdr.out; rw [hq]; exact ⟨_, World.drewN_drewN _ _ _⟩), Lib.hid (fun j h => by
                    have h2 : j < k1 := h
                    have h3 := hk1'.out
                    by_cases e : j = k
                    · rw [e]; exact hFk'.out
                    · exact hno.out j (by omega))⟩
                  case measure => have := hk1'.out; simp [intOf]; omega
              · obtain ⟨e1, e2⟩ := hmiss'.out (fun j h => hno.out j (by omega))
                obtain ⟨q, hq⟩ := hdr.out
                have e1' := Lib.hid e1
                have e2' := Lib.hid e2
                clear e2 e1
                go_wp2
                go_ret2
                exact ⟨_, by rw [e1'.out]; rfl, by first | exact (hbw2.out.drewN q).below | (rw [hq]; exact (hbw2.out.drewN q).below), by rw [e2'.out]; exact World.ownsRow_nil _ _ _ _⟩
          · have hMm : M = 12 := by have := hM'.out; omega
            subst hMm
            have hm1' := Lib.hid hm1
            clear hm1
            go_wp2
            go_loopw [53] (fun i wr => ∃ k : Nat, k ≤ 12 ∧ i = .int .i64 k ∧ Hid (∃ q, wr = W2.drewN q) ∧ Hid (∀ j, j < k → fitOk D j = false)) (fun i _ => 12 - (intOf i).toNat)
            case atStart => exact ⟨0, Nat.zero_le _, rfl, Lib.hid ⟨0, rfl⟩, Lib.hid (fun j h => absurd h (by omega))⟩
            case round =>
              obtain ⟨k, hk, rfl, hdr, hno⟩ := hrel
              by_cases hlt : k < 12
              · obtain ⟨kk, hkk⟩ : ∃ kk : Nat, m - k - 1 = kk := ⟨_, rfl⟩
                obtain ⟨k1, hk1⟩ : ∃ k1 : Nat, k + 1 = k1 := ⟨_, rfl⟩
                have hbwr : Hid (Box w w.heap.size (.cells #[.int .i64 n] 3) wr) := by obtain ⟨q, rfl⟩ := hdr.out; exact hbw2.out.drewN q
                have hfwr : Hid (wr.ownsRow (w.heap.size + 1) 3 1 (.slice (some ⟨g, 0, none⟩) m cg) m (D.map vint)) := by obtain ⟨q, rfl⟩ := hdr.out; exact hfin'
                have hDi : Ints wr (.slice (some ⟨g, 0, none⟩) m cg) D := by have h := hfwr.out; rw [← hDl'.out] at h ⊢; exact own_ints h
                have s1 := fun W => run_cut_l (elemInt : Elem1 Tryz.prog 22 3 (.int .i64 0) 8) (some ⟨g, 0, none⟩) m cg k1 (by omega) W
                have s2 := fun W => run_cut_h (elemInt : Elem1 Tryz.prog 22 3 (.int .i64 0) 8) (some ⟨g, 0, none⟩) m cg kk (by omega) W
                have s3 := fun W => run_cut_h (elemInt : Elem1 Tryz.prog 22 3 (.int .i64 0) 8) (some ⟨g, 0, none⟩) m cg k1 (by omega) W
                have a1 := hDi.cut k1 m (by omega) (Nat.le_refl _)
                have a2 := hDi.cut 0 kk (Nat.zero_le _) (by omega)
                have a3 := hDi.cut 0 k1 (Nat.zero_le _) (by omega)
                have e0 : cutA (some ⟨g, 0, none⟩) cg 0 = some ⟨g, 0, none⟩ := by
                  unfold cutA
                  split
                  · rfl
                  · simp [Addr.add]
                rw [e0, Nat.sub_zero, Nat.sub_zero, List.drop_zero] at a2 a3
                rw [List.take_of_length_le (by simp [hDl'.out])] at a1
                have hok2 : (D.drop k1 == D.take kk) = fitOk D k := by unfold fitOk; rw [hDl'.out, hkk, hk1]
                generalize cutA (some ⟨g, 0, none⟩) cg k1 = X at s1 a1
                have heq : ∀ q, Calls Tryz.prog 20 #[.slice X (m - k1) (cg - k1), .slice (some ⟨g, 0, none⟩) kk cg] (wr.drewN q) fun e w' => e = .returned (.bool (fitOk D k)) ∧ ∃ n, w' = (wr.drewN q).drewN n := by
                  intro q
                  rw [← hok2]
                  exact pf_Equal _ _ (D.drop k1) (D.take kk) _ a1 a2
                have hclone : ∀ q, Calls Tryz.prog 21 #[.slice (some ⟨g, 0, none⟩) k1 cg] (wr.drewN q) fun e w' => ∃ v', e = .returned v' ∧ Below wr.heap.size wr w' ∧ w'.ownsRow wr.heap.size 3 1 v' (D.take k1).length ((D.take k1).map vint) := by
                  intro q
                  refine (pf_Clone _ (D.take k1) (wr.drewN q) a3 (by rw [List.length_take]; omega)).mono ?_
                  rintro e w' ⟨v', h1, h2, h3, -⟩
                  exact ⟨v', h1, ⟨h2.os, h2.tape, h2.output, h2.size, h2.block⟩, h3⟩
                have hhit2 := hhit'.out k
                have j1 : IntKind.i64.wrap ((k : Int) + 1) = (k1 : Int) := by rw [← hk1, IntWalk.i64_in _ (by omega)]; simp
                obtain ⟨k2, hk2⟩ : ∃ k2 : Nat, kk + 1 = k2 := ⟨_, rfl⟩
                have j2 : IntKind.i64.wrap ((m : Int) - (k : Int)) = (k2 : Int) := by rw [IntWalk.i64_in _ (by omega)]; omega
                have j3 : IntKind.i64.wrap ((k2 : Int) - 1) = (kk : Int) := by rw [IntWalk.i64_in _ (by omega)]; omega
                have i1 : (k1 : Int) ≤ (m : Int) := by omega
                have i2 : (kk : Int) ≤ (cg : Int) := by omega
                have i3 : (k1 : Int) ≤ (cg : Int) := by omega
                clear a1 a2 a3 e0 hok2
                obtain ⟨Fk, hFk⟩ : ∃ b, fitOk D k = b := ⟨_, rfl⟩
                rw [hFk] at heq
                have heq' := Lib.hid heq
                have hclone' := Lib.hid hclone
                have hFk' := Lib.hid hFk
                have hhit2' := Lib.hid hhit2
                have hkk' := Lib.hid hkk
                have hk1' := Lib.hid hk1
                have hk2' := Lib.hid hk2
                have hDi' := Lib.hid hDi
                clear hDi hk2 hk1 hkk hhit2 hFk hclone heq
                go_wp2
                go_quiet ((go_at_call 20; exact Calls.quiet_of (heq'.out _)))
                cases Fk with
                | true =>
                  obtain ⟨e1, e2⟩ := hhit2'.out (by omega) hFk'.out hno.out
                  have e1' := Lib.hid e1
                  have e2' := Lib.hid e2
                  clear e2 e1
                  go_wp2_with (first | (go_at_call 21; ((with_reducible refine (hclone'.out _).mono ?_); rintro e w' ⟨v9, rfl, hb9, ho9⟩)))
                  go_ret2
                  exact ⟨_, by rw [e1'.out]; rfl, (hbwr.out.next hb9).below, by rw [e2'.out, hk1'.out]; exact own_base ho9 hbwr.out.size⟩
                | false =>
                  go_wp2
                  go_roundw
                  case rel => exact ⟨k1, by have := hk1'.out; omega, by go_num, Lib.hid (by obtain ⟨q, hq⟩ := hdr.out; rw [hq]; exact ⟨_, World.drewN_drewN _ _ _⟩), Lib.hid (fun j h => by
                    have h2 : j < k1 := h
                    have h3 := hk1'.out
                    by_cases e : j = k
                    · rw [e]; exact hFk'.out
                    · exact hno.out j (by omega))⟩
                  case measure => have := hk1'.out; simp [intOf]; omega
              · obtain ⟨e1, e2⟩ := hmiss'.out (fun j h => hno.out j (by omega))
                obtain ⟨q, hq⟩ := hdr.out
                have e1' := Lib.hid e1
                have e2' := Lib.hid e2
                clear e2 e1
                go_wp2
                go_ret2
                exact ⟨_, by rw [e1'.out]; rfl, by first | exact (hbw2.out.drewN q).below | (rw [hq]; exact (hbw2.out.drewN q).below), by rw [e2'.out]; exact World.ownsRow_nil _ _ _ _⟩
    · have e1 : fitE l n = 2 := by unfold fitE; rw [if_neg hbig, if_neg hok]
      have e2 : fitL l n = [] := by unfold fitL; rw [if_neg hbig, if_neg hok]
      have hcase : X1 = false ∨ (X1 = true ∧ l.length < 2) ∨ (X1 = true ∧ ¬ l.length < 2 ∧ X2 = true) := by
        unfold fitArg at hok
        rw [hX1, hX2] at hok
        cases X1 <;> cases X2 <;> simp at hok ⊢ <;> omega
      rw [e1, e2]
      have e1' := Lib.hid e1
      have e2' := Lib.hid e2
      have hX1' := Lib.hid hX1
      have hX2' := Lib.hid hX2
      have hok' := Lib.hid hok
      have hcont' := Lib.hid hcont
      clear hcont hok hX2 hX1 e2 e1
      rcases hcase with rfl | ⟨rfl, h2⟩ | ⟨rfl, h2, rfl⟩
      all_goals
        go_enter Tryz.func5, Tryz.ntmps5
        go_wp2_with (first | (go_at_call 17; ((with_reducible refine (pf_within_pattern _ _ _ _).mono ?_); rintro e w' ⟨rfl, rfl⟩; rw [hX1'.out])) | (go_at_call 18; ((with_reducible refine (hcont'.out _ (World.cell?_alloc_at _ _ _ _ rfl) (alc1 _ _)).mono ?_); rintro e w' ⟨rfl, rfl⟩)))
        go_ret2
        exact ⟨_, rfl, alc1 _ _, World.ownsRow_nil _ _ _ _⟩
end Go.Proofs.YtbikpadjmmgpcaaGreat
namespace Go.Proofs.YtbikpadjmmgpcaaGreat
open Go.RowKit Go.Lib
set_option linter.unusedVariables false
set_option linter.unusedSimpArgs false
attribute [local go_sem] Oper.semAt_some
attribute [local go_sem ↓] Go.wp_at_zero Go.wp_at_succ
/-- The first k + 1 shifts, again and again: position by position. -/
theorem fitOk_iff {d : List Int} {k : Nat} (hk : k < d.length) : fitOk d k = true ↔ ∀ i, k + 1 ≤ i → i < d.length → d.getD i 0 = d.getD (i - (k + 1)) 0 := by
  unfold fitOk
  rw [beq_iff_eq]
  constructor
  · intro h i h1 h2
    have := congrArg (fun l => l[i - (k + 1)]?) h
    simp only [List.getElem?_drop, List.getElem?_take] at this
    rw [show k + 1 + (i - (k + 1)) = i by omega, if_pos (by omega)] at this
    simp only [List.getD_eq_getElem?_getD, this]
  · intro h
    apply List.ext_getElem?
    intro j
    rw [List.getElem?_drop, List.getElem?_take]
    by_cases hj : j < d.length - k - 1
    · rw [if_pos hj]
      have := h (k + 1 + j) (by omega) (by omega)
      rw [show k + 1 + j - (k + 1) = j by omega] at this
      simp only [List.getD_eq_getElem?_getD, List.getElem?_eq_getElem (show k + 1 + j < d.length by omega), List.getElem?_eq_getElem (show j < d.length by omega), Option.getD_some] at this ⊢
      rw [this]
    · rw [if_neg hj, List.getElem?_eq_none (by omega)]
open Classical in
/-- Whether the positions from k + 1 to j - 1 are so. -/
noncomputable def fitUp (d : List Int) (k j : Nat) : Bool := decide (∀ i, k + 1 ≤ i → i < j → d.getD i 0 = d.getD (i - (k + 1)) 0)
open Classical in
theorem fitUp_next {d : List Int} {k j : Nat} (h : k + 1 ≤ j) : fitUp d k (j + 1) = (fitUp d k j && (d.getD j 0 == d.getD (j - (k + 1)) 0)) := by
  unfold fitUp
  rw [Bool.eq_iff_iff]
  simp only [Bool.and_eq_true, decide_eq_true_eq, beq_iff_eq]
  constructor
  · intro h1
    exact ⟨fun i a b => h1 i a (by omega), h1 j h (by omega)⟩
  · rintro ⟨h1, h2⟩ i a b
    by_cases e : i = j
    · rw [e]; exact h2
    · exact h1 i a (by omega)
open Classical in
theorem fitUp_start (d : List Int) (k : Nat) : fitUp d k (k + 1) = true := by
  unfold fitUp
  rw [decide_eq_true_eq]
  intro i h1 h2
  omega
open Classical in
theorem fitUp_end {d : List Int} {k : Nat} (hk : k < d.length) : fitUp d k d.length = fitOk d k := by
  rw [Bool.eq_iff_iff, fitOk_iff hk]
  unfold fitUp
  rw [decide_eq_true_eq]
def FitPost (l : List Int) (n : Int) (w : World) (e : Ending) (w' : World) : Prop := ∃ v', e = .returned (.tuple #[v', .int .i64 (fitE l n)]) ∧ Below w.heap.size w w' ∧ Ints w' v' (fitL l n)
theorem FitPost.bad {l : List Int} {n : Int} {w w' : World} {E : Int} (hE : fitE l n = E) (hL : fitL l n = []) (hle : Below w.heap.size w w') : FitPost l n w (.returned (.tuple #[.slice none 0 0, .int .i64 E])) w' :=
  ⟨_, by rw [hE], hle, by rw [hL]; exact Arr.nil _ _⟩
set_option maxRecDepth 100000 in
set_option maxHeartbeats 4000000 in
theorem pf_n_Fit (v : Value) (l : List Int) (n : Int) (w : World) (hv : Ints w v l) :
    Calls Tryz.prog 6 #[v, .int .i64 n] w (FitPost l n w) := by
  have hv0 := Lib.hid hv
  obtain ⟨A, c, rfl, hlc, hcm, _, hr⟩ := hv
  unfold maxLen at hcm
  clear hr
  by_cases hbig : 200 < l.length
  · have e1 : fitE l n = 4 := by unfold fitE; rw [if_pos hbig]
    have e2 : fitL l n = [] := by unfold fitL; rw [if_pos hbig]
    have hfin := FitPost.bad e1 e2 (Below.refl w.heap.size w)
    have e1' := Lib.hid e1
    have e2' := Lib.hid e2
    have hfin' := Lib.hid hfin
    clear hfin e2 e1
    go_enter Tryz.func6, Tryz.ntmps6
    go_wp2
    go_ret2
    exact hfin'.out
  · have hbad : fitArg l n = false → FitPost l n w (.returned (.tuple #[.slice none 0 0, .int .i64 2])) w := fun h => FitPost.bad (by unfold fitE; rw [if_neg hbig, h]; rfl) (by unfold fitL; rw [if_neg hbig, h]; rfl) (Below.refl _ _)
    obtain ⟨X1, hX1⟩ : ∃ X, within n 3 96 = X := ⟨_, rfl⟩
    cases X1 with
    | false =>
      have hfin := hbad (by unfold fitArg; rw [hX1]; rfl)
      have hbad' := Lib.hid hbad
      have hfin' := Lib.hid hfin
      clear hfin hbad
      go_enter Tryz.func6, Tryz.ntmps6
      go_wp2_with (first | (go_at_call 22; ((with_reducible refine (pf_within_barleycornref04 _ _ _ _).mono ?_); rintro e w' ⟨rfl, rfl⟩; rw [hX1])))
      go_ret2
      exact hfin'.out
    | true =>
      by_cases hl2 : l.length < 2
      · have hfin := hbad (by unfold fitArg; rw [decide_eq_false (by omega)]; simp)
        have hl3 : (l.length : Int) < 2 := by omega
        have hbad' := Lib.hid hbad
        have hfin' := Lib.hid hfin
        clear hfin hbad
        go_enter Tryz.func6, Tryz.ntmps6
        go_wp2_with (first | (go_at_call 22; ((with_reducible refine (pf_within_barleycornref04 _ _ _ _).mono ?_); rintro e w' ⟨rfl, rfl⟩; rw [hX1])))
        go_ret2
        exact hfin'.out
      · have hl3 : ¬ (l.length : Int) < 2 := by omega
        have hl4 : 2 ≤ l.length := by omega
        have hn := within_iff.1 hX1
        obtain ⟨la, lo, c', heq, hla, -, -, hcl⟩ := Ints.cells hv0.out (by omega)
        injection heq with a1 a2 a3
        subst a1 a3
        clear a2
        obtain ⟨m, hm⟩ : ∃ m, l.length = m + 1 := ⟨l.length - 1, by omega⟩
        obtain ⟨M, hM⟩ : ∃ M, min 12 m = M := ⟨_, rfl⟩
        have hcg : ∀ i, i < m + 1 → w.cell? ⟨la, lo + i, none⟩ = some (.int .i64 (l.getD i 0)) := fun i hi => by
          rw [hcl i (by omega)]
          simp [List.getElem?_eq_getElem (show i < l.length by omega)]
        have hbad' := Lib.hid hbad
        have hcl' := Lib.hid hcl
        have hcg' := Lib.hid hcg
        have hM' := Lib.hid hM
        have hm' := Lib.hid hm
        clear hm hM hcg hcl hbad
        go_enter Tryz.func6, Tryz.ntmps6
        go_wp2_with (first | (go_at_call 22; ((with_reducible refine (pf_within_barleycornref04 _ _ _ _).mono ?_); rintro e w' ⟨rfl, rfl⟩; rw [hX1])))
        go_loop [6] (fun ix => ∃ j : Nat, j ≤ l.length ∧ ix = .int .i64 j ∧ Hid (∀ i, i < j → fitIn (l.getD i 0) n = true)) (fun ix => l.length - (intOf ix).toNat)
        case atStart => exact ⟨0, Nat.zero_le _, rfl, Lib.hid (fun i h => absurd h (Nat.not_lt_zero i))⟩
        case round =>
          obtain ⟨j, hj, rfl, hok⟩ := hrel
          by_cases hlt : j < l.length
          · have hck := hcg'.out j (by have := hm'.out; omega)
            have hwi := within_iff (n := l.getD j 0) (lo := 0) (hi := n - 1)
            have hgl : l.getD j 0 = l[j] := by simp [List.getD_eq_getElem?_getD, List.getElem?_eq_getElem hlt]
            have hfi : fitIn (l.getD j 0) n = within (l.getD j 0) 0 (n - 1) := by
              unfold fitIn within
              rw [Bool.eq_iff_iff]
              simp only [Bool.and_eq_true, decide_eq_true_eq]
              omega
            have hno : fitIn (l.getD j 0) n = false → fitArg l n = false := fun h => by
              unfold fitArg
              have : (l.any fun x => !fitIn x n) = true := List.any_eq_true.2 ⟨l[j], List.getElem_mem hlt, by rw [← hgl, h]; rfl⟩
              rw [this]
              simp
            have hyes : fitIn (l.getD j 0) n = true → ∀ i, i < j + 1 → fitIn (l.getD i 0) n = true := fun h i hi => by
              by_cases e : i = j
              · rw [e]; exact h
              · exact hok.out i (by omega)
            obtain ⟨X4, hX4⟩ : ∃ X, within (l.getD j 0) 0 (n - 1) = X := ⟨_, rfl⟩
            rw [hfi, hX4] at hno hyes
            generalize l.getD j 0 = x at hck hX4
            clear hwi hgl hfi
            have hno' := Lib.hid hno
            have hyes' := Lib.hid hyes
            clear hyes hno
            cases X4 with
            | false =>
              have hfin := hbad'.out (hno'.out (by first | rfl | trivial))
              have hfin' := Lib.hid hfin
              clear hfin
              go_wp2_with (first | (go_at_call 22; ((with_reducible refine (pf_within_barleycornref04 _ _ _ _).mono ?_); rintro e w' ⟨rfl, rfl⟩; rw [hX4])))
              go_ret2
              exact hfin'.out
            | true =>
              go_wp2_with (first | (go_at_call 22; ((with_reducible refine (pf_within_barleycornref04 _ _ _ _).mono ?_); rintro e w' ⟨rfl, rfl⟩; rw [hX4])))
              go_round
              case rel => exact ⟨j + 1, by omega, by go_num, Lib.hid (hyes'.out (by first | rfl | trivial))⟩
              case measure => simp [intOf]; omega
          · obtain rfl : j = l.length := by omega
            have hA : fitArg l n = true := by
              unfold fitArg
              rw [hX1, decide_eq_true hl4]
              have : (l.any fun x => !fitIn x n) = false := List.any_eq_false.2 fun x hx => by
                obtain ⟨i, hi, rfl⟩ := List.mem_iff_getElem.1 hx
                have := hok.out i hi
                rw [List.getD_eq_getElem?_getD, List.getElem?_eq_getElem hi, Option.getD_some] at this
                rw [this]
                simp
              rw [this]
              rfl
            have hin : ∀ i, i < m + 1 → 0 ≤ l.getD i 0 ∧ l.getD i 0 < n := fun i hi => by
              have := hok.out i (by have := hm'.out; omega)
              unfold fitIn at this
              simpa using this
            have hm1 := hm'.out
            have hfull : fitE l n = (if (fitK (fitD l n) M).isSome then 0 else 4) ∧ fitL l n = (match fitK (fitD l n) M with | some k => (fitD l n).take (k + 1) | none => []) := by
              unfold fitE fitL
              rw [if_neg hbig, if_neg hbig, if_pos hA, if_pos hA, hm1, Nat.add_sub_cancel, hM'.out]
              exact ⟨rfl, rfl⟩
            have hmiss : (∀ j, j < M → fitOk (fitD l n) j = false) → fitE l n = 4 ∧ fitL l n = [] := fun h => by
              rw [hfull.1, hfull.2, fitK_none _ _ h]
              exact ⟨rfl, rfl⟩
            have hhit : ∀ k, k < M → fitOk (fitD l n) k = true → (∀ j, j < k → fitOk (fitD l n) j = false) → fitE l n = 0 ∧ fitL l n = (fitD l n).take (k + 1) := fun k h1 h2 h3 => by
              rw [hfull.1, hfull.2, fitK_hit _ _ _ h1 h2 h3]
              exact ⟨rfl, rfl⟩
            have hDl := fitD_length l n
            have hDg : ∀ i (h : i < m), (fitD l n)[i]? = some ((l.getD (i + 1) 0 - l.getD i 0) % n) := fun i h => by
              rw [List.getElem?_eq_getElem (by rw [hDl]; omega), fitD_get l n i (by omega)]
            rw [hm1, Nat.add_sub_cancel] at hDl
            generalize fitD l n = Dl at hfull hmiss hhit hDl hDg
            have hmb : m ≤ 199 := by omega
            have hml : (m : Int) + 1 = (l.length : Int) := by omega
            clear hfull
            have hm1' := Lib.hid hm1
            have hmiss' := Lib.hid hmiss
            have hhit' := Lib.hid hhit
            have hDl' := Lib.hid hDl
            have hDg' := Lib.hid hDg
            have hin' := Lib.hid hin
            have hA' := Lib.hid hA
            have hok' := Lib.hid hok
            have hml' := Lib.hid hml
            clear hml hok hA hin hDg hDl hhit hmiss hm1
            go_wp2
            go_loopw [8, 7] (fun i r wr => ∃ k : Nat, k ≤ m ∧ i = .int .i64 k ∧ Hid (Below w.heap.size w wr) ∧ Hid (wr.ownsRow w.heap.size 3 1 r (Dl.take k).length ((Dl.take k).map vint))) (fun i _ _ => m - (intOf i).toNat)
            case atStart => exact ⟨0, Nat.zero_le _, rfl, Lib.hid (Below.refl _ _), Lib.hid (World.ownsRow_nil _ _ _ _)⟩
            case round =>
              obtain ⟨k, hk, rfl, hbw, hown⟩ := hrel
              by_cases hlt : k < m
              · have hz := hbw.out
                have k1 : wr.cell? ⟨la, lo + (k + 1), none⟩ = some (.int .i64 (l.getD (k + 1) 0)) := (hz.cell (p := ⟨la, lo + (k + 1), none⟩) hla).trans (hcg'.out (k + 1) (by omega))
                have k2 : wr.cell? ⟨la, lo + k, none⟩ = some (.int .i64 (l.getD k 0)) := (hz.cell (p := ⟨la, lo + k, none⟩) hla).trans (hcg'.out k (by omega))
                have hxb := hin'.out (k + 1) (by omega)
                have hyb := hin'.out k (by omega)
                have hdk := hDg'.out k hlt
                generalize l.getD (k + 1) 0 = x at k1 hxb hdk
                generalize l.getD k 0 = y at k2 hyb hdk
                have hmod := fun W => pf_r3_Around (x - y) n W (by omega) (by omega) (by unfold Mid; omega)
                have hw1 : IntKind.i64.wrap (x - y) = x - y := IntWalk.i64_in _ (by omega)
                have hlen : (Dl.take k).length = k := by rw [List.length_take, hDl'.out]; omega
                have htk : Dl.take (k + 1) = Dl.take k ++ [(x - y) % n] := by
                  rw [List.take_add_one, hdk]; rfl
                generalize (x - y) % n = z at hmod htk
                generalize Dl.take k = L at hown hlen htk
                have hml1 := hml'.out
                have i1 : (k : Int) < (l.length : Int) := by omega
                have i3 : (0 : Int) ≤ (k : Int) := by omega
                have i4 : (k : Int) + 1 < (l.length : Int) := by omega
                have i5 : k + 1 < l.length := by omega
                have j1 : IntKind.i64.wrap ((k : Int) + 1) = (k : Int) + 1 := IntWalk.i64_in _ (by omega)
                have i6 : ((k : Int) + 1).toNat = k + 1 := by omega
                have i7 : (0 : Int) ≤ (k : Int) + 1 := by omega
                have hdk' := Lib.hid hdk
                have hmod' := Lib.hid hmod
                have htk' := Lib.hid htk
                have hz' := Lib.hid hz
                have hml1' := Lib.hid hml1
                clear hml1 hz htk hmod hdk
                go_wp2
                have hS : ∀ W, Below w.heap.size wr W → W.cell? ⟨la, lo + (k + 1), none⟩ = some (.int .i64 x) ∧ W.cell? ⟨la, lo + k, none⟩ = some (.int .i64 y) := fun W h => ⟨(h.cell (p := ⟨la, lo + (k + 1), none⟩) hla).trans k1, (h.cell (p := ⟨la, lo + k, none⟩) hla).trans k2⟩
                have hwz : w.heap.size ≤ wr.heap.size := hbw.out.size
                have hS' := Lib.hid hS
                clear hS
                go_region_held3 (fun w' => w'.cell? ⟨la, lo + (k + 1), none⟩ = some (.int .i64 x) ∧ w'.cell? ⟨la, lo + k, none⟩ = some (.int .i64 y)) (go_keep) (first | (go_at_call 23; refine (hmod'.out _).mono ?_; rintro e w' ⟨rfl, rfl⟩) | (refine step_appI rfl (.tmp 44) (.tmp 57) 22 (by rfl) w.heap.size 3 elemInt u7 L (by rfl) (hown.out.alloc _) (.slice (some ⟨_, 0, none⟩) 1 1) [z] (by rfl) (by first | exact one_newD _ _ _ | exact one_newI _ _ _) (by simp; omega) (by first | omega | (simp; omega)) ?_; intro v2 w2 ho2 hb2 hg2 _; have hB2 : Below w.heap.size wr w2 := (by first | exact (((Below.refl _ _).alloc hwz _).drew).trans hb2 | exact ((Below.refl _ _).alloc hwz _).trans hb2); obtain ⟨t1, t2⟩ := hS'.out _ hB2; have ho2' := Lib.hid ho2; clear ho2 hg2))
                have hb5 := Lib.hid (hbw.out.trans hB2)
                have ho3 : Hid (w2.ownsRow w.heap.size 3 1 v2 (Dl.take (k + 1)).length ((Dl.take (k + 1)).map vint)) := by rw [htk'.out]; exact ho2'
                clear hB2 ho2' t1 t2
                go_wp2
                go_roundw
                case rel => exact ⟨k + 1, by omega, by go_num, hb5, ho3⟩
                case measure => simp [intOf]; omega
              · obtain rfl : m = k := by omega
                have hfin := hown.out
                rw [List.take_of_length_le (by rw [hDl'.out]; omega), hDl'.out] at hfin
                have hnn : u7.ownBlock ≠ none := by
                  rcases hfin.2 with ⟨_, h1⟩ | ⟨g, cap, cur, rfl, _⟩
                  · have := hm'.out; omega
                  · simp [Value.ownBlock]
                obtain ⟨g, cg, rfl, hg1, hg2, hg3, hg4⟩ := own_formS hfin hnn
                unfold maxLen at hg4
                have hbw2 := hbw
                have hDi : Ints wr (.slice (some ⟨g, 0, none⟩) m cg) Dl := own_ints hfin
                have hcD : ∀ i, i < m → wr.cell? ⟨g, i, none⟩ = some (.int .i64 (Dl.getD i 0)) := fun i hi => by
                  have h : i < Dl.length := by rw [hDl'.out]; exact hi
                  have e : Dl.getD i 0 = Dl[i] := by simp [List.getD_eq_getElem?_getD, List.getElem?_eq_getElem h]
                  rw [e]
                  exact own_cellG (f := vint) hfin hDl'.out (List.getElem?_eq_getElem h)
                have hlm := hm'.out
                have x1 : ¬ (m : Int) + 1 < (l.length : Int) := by omega
                have x2 : ¬ m + 1 < l.length := by omega
                clear hlm hown hfin hbw hnn
                generalize wr = W2 at hbw2 hDi hcD hg2 ⊢
                have hDi' := Lib.hid hDi
                have hcD' := Lib.hid hcD
                clear hcD hDi
                go_wp2
                go_loopw [9] (fun i wr => ∃ k : Nat, k ≤ M ∧ i = .int .i64 ((k + 1 : Nat) : Int) ∧ Hid (∃ q, wr = W2.drewN q) ∧ Hid (∀ j, j < k → fitOk Dl j = false)) (fun i _ => 13 - (intOf i).toNat)
                case atStart => exact ⟨0, Nat.zero_le _, rfl, Lib.hid ⟨0, rfl⟩, Lib.hid (fun j h => absurd h (Nat.not_lt_zero j))⟩
                case round =>
                  obtain ⟨k, hk, rfl, hdr, hno⟩ := hrel
                  have hMm := hM'.out
                  by_cases hlt : k < M
                  · have c1 : ((k + 1 : Nat) : Int) ≤ 12 := by omega
                    have c2 : ((k + 1 : Nat) : Int) ≤ (m : Int) := by omega
                    have c3 : k + 1 ≤ m := by omega
                    have c4 : k + 1 ≤ 12 := by omega
                    obtain ⟨wo, hwo⟩ : ∃ wo, wo = wr := ⟨_, rfl⟩
                    rw [← hwo] at hdr
                    subst hwo
                    have hMm' := Lib.hid hMm
                    clear hMm
                    go_wp2
                    go_loopw [11, 10] (fun i ag wi => ∃ j : Nat, k + 1 ≤ j ∧ j ≤ m ∧ i = .int .i64 j ∧ ag = .bool (fitUp Dl k j) ∧ Hid (∃ q, wi = W2.drewN q)) (fun i _ _ => m - (intOf i).toNat)
                    case atStart => exact ⟨k + 1, Nat.le_refl _, c3, rfl, by rw [fitUp_start], hdr⟩
                    case round =>
                      obtain ⟨j, hj1, hj2, rfl, rfl, hdi⟩ := hrel
                      by_cases hlj : j < m
                      · have hnx := fitUp_next (d := Dl) hj1
                        have hc : wr.cell? ⟨g, j, none⟩ = some (.int .i64 (Dl.getD j 0)) := by obtain ⟨q, hq⟩ := hdi.out; rw [hq]; exact hcD'.out j hlj
                        have hc2 : wr.cell? ⟨g, j - (k + 1), none⟩ = some (.int .i64 (Dl.getD (j - (k + 1)) 0)) := by obtain ⟨q, hq⟩ := hdi.out; rw [hq]; exact hcD'.out _ (by omega)
                        obtain ⟨jj, hjj⟩ : ∃ jj, j - (k + 1) = jj := ⟨_, rfl⟩
                        rw [hjj] at hc2 hnx
                        generalize Dl.getD j 0 = x at hc hnx
                        generalize Dl.getD jj 0 = y at hc2 hnx
                        generalize hF2 : fitUp Dl k (j + 1) = F2 at hnx
                        generalize fitUp Dl k j = F1 at hnx
                        have j1 : IntKind.i64.wrap ((j : Int) - ((k + 1 : Nat) : Int)) = (jj : Int) := by rw [IntWalk.i64_in _ (by omega)]; omega
                        have j2 : IntKind.i64.wrap ((j : Int) - ((k : Int) + 1)) = (jj : Int) := by rw [IntWalk.i64_in _ (by omega)]; omega
                        have i1 : (j : Int) < (m : Int) := by omega
                        have i2 : (0 : Int) ≤ (j : Int) := by omega
                        have i3 : (jj : Int) < (m : Int) := by omega
                        have i4 : (0 : Int) ≤ (jj : Int) := by omega
                        have hdi2 : ∀ q, ∃ r, wr.drewN q = W2.drewN r := fun q => by obtain ⟨r, hr⟩ := hdi.out; rw [hr]; exact ⟨_, World.drewN_drewN _ _ _⟩
                        have hjj' := Lib.hid hjj
                        have hdi2' := Lib.hid hdi2
                        have hF2' := Lib.hid hF2
                        clear hF2 hdi2 hjj
                        cases F1 with
                        | true =>
                          by_cases hxy : x = y
                          · have hF : F2 = true := by rw [hnx, hxy]; simp
                            subst hF
                            have e1 : (x == y) = true := by simpa using hxy
                            have hnx' := Lib.hid hnx
                            have hxy' := Lib.hid hxy
                            clear hxy hnx
                            go_wp2
                            go_quiet (fail)
                            go_wp2
                            go_roundw
                            case rel => exact ⟨j + 1, by omega, by omega, by go_num, by rw [hF2'.out], Lib.hid (hdi2'.out _)⟩
                            case measure => simp [intOf]; omega
                          · have hF : F2 = false := by rw [hnx]; simpa using hxy
                            subst hF
                            have e1 : (x == y) = false := by simpa using hxy
                            have hnx' := Lib.hid hnx
                            have hxy' := Lib.hid hxy
                            clear hxy hnx
                            go_wp2
                            go_quiet (fail)
                            go_wp2
                            go_roundw
                            case rel => exact ⟨j + 1, by omega, by omega, by go_num, by rw [hF2'.out], Lib.hid (hdi2'.out _)⟩
                            case measure => simp [intOf]; omega
                        | false =>
                          have hF : F2 = false := by rw [hnx]; rfl
                          subst hF
                          have hnx' := Lib.hid hnx
                          clear hnx
                          go_wp2
                          go_quiet (fail)
                          go_wp2
                          go_roundw
                          case rel => exact ⟨j + 1, by omega, by omega, by go_num, by rw [hF2'.out], Lib.hid (hdi2'.out _)⟩
                          case measure => simp [intOf]; omega
                      · obtain rfl : m = j := by omega
                        have hend : fitUp Dl k m = fitOk Dl k := by have h := fitUp_end (d := Dl) (k := k) (by rw [hDl'.out]; omega); rwa [hDl'.out] at h
                        rw [hend]
                        have hhit2 := hhit'.out k
                        have hnx3 : fitOk Dl k = false → ∀ j, j < k + 1 → fitOk Dl j = false := fun h j hj => by
                          by_cases e : j = k
                          · rw [e]; exact h
                          · exact hno.out j (by omega)
                        obtain ⟨Fk, hFk⟩ : ∃ b, fitOk Dl k = b := ⟨_, rfl⟩
                        rw [hFk] at hnx3 ⊢
                        have hend' := Lib.hid hend
                        have hhit2' := Lib.hid hhit2
                        have hnx3' := Lib.hid hnx3
                        have hFk' := Lib.hid hFk
                        clear hFk hnx3 hhit2 hend
                        cases Fk with
                        | true =>
                          obtain ⟨e1, e2⟩ := hhit2'.out (by omega) hFk'.out hno.out
                          have hrd : Hid (FitPost l n w (.returned (.tuple #[.slice (some ⟨g, 0, none⟩) (k + 1) cg, .int .i64 0])) wr) := by
                            obtain ⟨q, hq⟩ := hdi.out
                            rw [hq]
                            refine Lib.hid ⟨_, by rw [e1], below_drewN' hbw2.out q, ?_⟩
                            rw [e2]
                            have h := (hDi'.out.below (Below.of_drewN W2 q)).cut 0 (k + 1) (by omega) (by omega)
                            have e0 : cutA (some ⟨g, 0, none⟩) cg 0 = some ⟨g, 0, none⟩ := by
                              unfold cutA
                              split
                              · rfl
                              · simp [Addr.add]
                            rw [e0, Nat.sub_zero, Nat.sub_zero, List.drop_zero] at h
                            exact h
                          have s3 := fun W => run_cut_h (elemInt : Elem1 Tryz.prog 22 3 (.int .i64 0) 8) (some ⟨g, 0, none⟩) m cg (k + 1) (by omega) W
                          have i2 : ((k + 1 : Nat) : Int) ≤ (cg : Int) := by omega
                          have e1' := Lib.hid e1
                          have e2' := Lib.hid e2
                          clear e2 e1
                          go_wp2
                          go_ret2
                          exact hrd.out
                        | false =>
                          go_wp2
                          go_roundw
                          case rel => exact ⟨k + 1, by omega, by go_num, hdi, Lib.hid (hnx3'.out (by first | rfl | trivial))⟩
                          case measure => simp [intOf]; omega
                  · obtain rfl : k = M := by omega
                    obtain ⟨e1, e2⟩ := hmiss'.out hno.out
                    obtain ⟨q, hq⟩ := hdr.out
                    have hrd := FitPost.bad e1 e2 (below_drewN' hbw2.out q)
                    have hcs : (k = 12 ∧ 12 ≤ m) ∨ (k < 12 ∧ k = m) := by omega
                    have e1' := Lib.hid e1
                    have e2' := Lib.hid e2
                    have hMm' := Lib.hid hMm
                    have hrd' := Lib.hid hrd
                    clear hrd hMm e2 e1
                    rcases hcs with ⟨d1, d2⟩ | ⟨d1, d2⟩
                    · have c1 : ¬ ((k + 1 : Nat) : Int) ≤ 12 := by omega
                      have c2 : ¬ k + 1 ≤ 12 := by omega
                      have d1' := Lib.hid d1
                      clear d1
                      go_wp2
                      go_ret2
                      first | exact hrd'.out | (rw [hq]; exact hrd'.out)
                    · have c1 : ((k + 1 : Nat) : Int) ≤ 12 := by omega
                      have c2 : k + 1 ≤ 12 := by omega
                      have c3 : ¬ ((k + 1 : Nat) : Int) ≤ (m : Int) := by omega
                      have c4 : ¬ k + 1 ≤ m := by omega
                      have d2' := Lib.hid d2
                      clear d2
                      go_wp2
                      go_ret2
                      first | exact hrd'.out | (rw [hq]; exact hrd'.out)
end Go.Proofs.YtbikpadjmmgpcaaGreat
