/- Kinds: the program's and the reference's. -/
import Derived.Test.YtnboppombhibbaaP4Tells
namespace Go.Proofs.Ytnboppombhibbaa
open Go.RowKit
set_option linter.unusedVariables false
set_option linter.unusedSimpArgs false
/-- How many of the first k shifts are, modulo the period, not zero. -/
def movedC (p : Prog) (k : Nat) : Nat := (p.shifts.take k).countP fun s => decide (s % (per p : Int) ≠ 0)
def stillC (p : Prog) (k : Nat) : Nat := (p.shifts.take k).countP fun s => decide (s % (per p : Int) = 0)
def kindV (N m t c : Nat) : Int := if N = 1 then 1 else if m = 1 then (if t = 0 then 2 else if 2 * t = N then 3 else 4) else if 2 * t = N ∧ c = 1 then 5 else 6
def kindI (p : Prog) : Int := kindV (per p) (motifN p) (turnI p).toNat (movedC p (motifN p))
theorem count_both (p : Prog) (k : Nat) (h : k ≤ p.shifts.length) : stillC p k + movedC p k = k := by
  unfold stillC movedC
  have := List.length_eq_countP_add_countP (fun s : Int => decide (s % (per p : Int) = 0)) (l := p.shifts.take k)
  rw [List.length_take, Nat.min_eq_left h] at this
  have e : (fun s : Int => decide (s % (per p : Int) ≠ 0)) = fun a : Int => decide ¬decide (a % (per p : Int) = 0) = true := by funext s; by_cases hs : s % (per p : Int) = 0 <;> simp [hs]
  rw [e]
  omega
theorem stillC_succ (p : Prog) (k : Nat) (h : k < p.shifts.length) : stillC p (k + 1) = stillC p k + if p.shifts[k] % (per p : Int) = 0 then 1 else 0 := by
  unfold stillC
  rw [List.take_succ_eq_append_getElem h, List.countP_append]
  simp [List.countP_cons]
theorem movedC_succ (p : Prog) (k : Nat) (h : k < p.shifts.length) : movedC p (k + 1) = movedC p k + if p.shifts[k] % (per p : Int) = 0 then 0 else 1 := by
  unfold movedC
  rw [List.take_succ_eq_append_getElem h, List.countP_append]
  by_cases hs : p.shifts[k] % (per p : Int) = 0 <;> simp [List.countP_cons, hs]
set_option maxRecDepth 100000 in
set_option maxHeartbeats 4000000 in
theorem pf_pat_Kind_ok (v : Value) (p : Prog) (w : World) (hv : IsProg w v p) (hE : progE p = 0) :
    Calls Try.prog 33 #[v] w fun e w' => e = .returned (.tuple #[.int .u8 (kindI p), .int .i64 0]) ∧ Below w.heap.size w w' := by
  have hv0 := Lib.hid hv
  obtain ⟨v0, v1, v5, rfl, h0, h1, h5⟩ := hv
  have h5' := Lib.hid h5
  obtain ⟨A5, c5, rfl, hc5, hm5, _, _⟩ := id h5
  unfold maxLen at hm5
  clear h0 h1 h5
  have hp := benchFacts hE
  have hs1 := hp.sh1
  have hpp := per_pos hp
  have hr1 := hp.ros1
  have hN0 := hpp.1
  have hN1 : per p ≤ 96 := by omega
  have hmt := motif_le hp
  have htb := turn_bound hp
  obtain ⟨t, ht⟩ : ∃ t : Nat, turnI p = (t : Int) := ⟨(turnI p).toNat, by omega⟩
  rw [ht] at htb
  have hk : kindI p = kindV (per p) (motifN p) t (movedC p (motifN p)) := by unfold kindI; rw [ht, Int.toNat_natCast]
  have hmot : ∀ W b, IsBench W b p → Calls Try.prog 72 #[.pointer (some ⟨b, 0, none⟩)] W fun e w' => e = .returned (.tuple #[.int .i64 (motifN p), .int .i64 t]) ∧ ∃ n, w' = W.drewN n := fun W b h => by rw [← ht]; exact pf_motif b p W h hp
  have hcut := fun W => run_cut_h (elemInt : Elem1 Try.prog 22 3 (.int .i64 0) 8) A5 p.shifts.length c5 (motifN p) (by omega) W
  have hcnt := Lib.hid (count_both p (motifN p) hmt.2)
  rw [hk]
  generalize hME : motifN p = m at *
  have hE' := Lib.hid hE
  have hmot' := Lib.hid hmot
  have ht' := Lib.hid ht
  have hk' := Lib.hid hk
  have hME' := Lib.hid hME
  have hpp' := Lib.hid hpp
  clear hpp hME hk ht hmot hE
  go_enter Try.func33, Try.ntmps33
  go_wp2_with (first | (go_at_call 51; ((with_reducible refine (pf_mounted _ p _ (hv0.out.below (alc1 _ _)) 0 hE'.out).mono ?_); rintro e w' ⟨vb, rfl, hb1, -, hok⟩; obtain ⟨b, rfl, hbb, hbench⟩ := hok rfl; have hbox := (Box.start w _).next hb1; have hbench' := Lib.hid hbench; clear hb1 hok hbb hbench)) | (go_at_call 72; ((with_reducible refine (hmot'.out _ b hbench'.out).mono ?_); rintro e w' ⟨rfl, nd, hw⟩; have hbox2 := (show Box w w.heap.size _ w' from hw ▸ hbox.drewN nd); have hbn := (show IsBench w' b p from hw ▸ hbench'.out.drewN nd); clear hw hbench' hbox; obtain ⟨p0, p1, p2, p3, p4, p5⟩ := hbox2.prog; obtain ⟨_, _, -, -, -, -, -, -, -, -, -, c9⟩ := hbn.cells; replace c9 : w'.cell? ⟨b, 9, none⟩ = some (.int .i64 (per p)) := c9; clear hbn p0 p1 p2 p3 p4)))
  have h5w := Lib.hid (h5'.out.below hbox2.below)
  have hbel := Lib.hid hbox2.below
  clear hbox2 hcut
  go_loop [29, 10, 8] (fun i _ s => ∃ k : Nat, k ≤ m ∧ i = .int .i64 k ∧ s = .int .i64 (stillC p k)) (fun i _ _ => m - (intOf i).toNat)
  case atStart => exact ⟨0, Nat.zero_le _, rfl, by simp [stillC]⟩
  case round =>
    obtain ⟨k, hk, rfl, rfl⟩ := hrel
    by_cases hlt : k < m
    · have hkl : k < p.shifts.length := by omega
      obtain ⟨sb, so, hA, hbz, hck⟩ := h5w.out.look hkl
      subst hA
      have hx := hp.sh k hkl
      have hsuc := Lib.hid (stillC_succ p k hkl)
      have hsk : stillC p k ≤ k := by have := count_both p k (by omega); omega
      have hcap : ¬ c5 = 0 := by omega
      generalize p.shifts[k] = x at hck hx hsuc
      have j3 : x.tmod (per p : Int) = x % (per p : Int) := Int.tmod_eq_emod_of_nonneg hx.1
      have k1 : ((per p : Int) == 0) = false := by simp; omega
      by_cases hz0 : x % (per p : Int) = 0
      · have hz : (x % (per p : Int) == 0) = true := by simpa using hz0
        have hss : stillC p (k + 1) = stillC p k + 1 := by rw [hsuc.out, if_pos hz0]
        have hss' := Lib.hid hss
        have hz0' := Lib.hid hz0
        clear hz0 hss
        go_wp2
        go_round
        case rel => exact ⟨k + 1, by omega, by go_num, by rw [hss'.out]; go_num⟩
        case measure => simp [intOf]; omega
      · have hz : (x % (per p : Int) == 0) = false := by simpa using hz0
        have hss : stillC p (k + 1) = stillC p k := by rw [hsuc.out, if_neg hz0]; rfl
        have hss' := Lib.hid hss
        have hz0' := Lib.hid hz0
        clear hz0 hss
        go_wp2
        go_round
        case rel => exact ⟨k + 1, by omega, by go_num, by rw [hss'.out]⟩
        case measure => simp [intOf]; omega
    · obtain rfl : k = m := by omega
      have hcn := hcnt.out
      generalize hCe : movedC p k = c at hcn
      generalize stillC p k = s at hcn ⊢
      have j1 : IntKind.i64.wrap (2 * (t : Int)) = 2 * (t : Int) := IntWalk.i64_in _ (by omega)
      have j2 : IntKind.i64.wrap ((k : Int) - 1) = (k : Int) - 1 := IntWalk.i64_in _ (by omega)
      generalize hNe : per p = N at hN0 hN1 c9 htb
      have hCe' := Lib.hid hCe
      have hNe' := Lib.hid hNe
      clear hNe hCe
      by_cases a1 : N = 1
      · skip
        have b1 : ((N : Int) == 1) = true := beq_iff_eq.2 (by omega)
        have hkv : kindV N k t c = 1 := by unfold kindV; simp [a1]
        have hkv' := Lib.hid hkv
        clear hkv
        clear a1
        go_wp2
        go_ret2
        exact ⟨by rw [hNe'.out, hCe'.out, hkv'.out]; exact rfl, hbel.out⟩
      · skip
        have b1 : ((N : Int) == 1) = false := beq_eq_false_iff_ne.2 (by omega)
        by_cases a2 : k = 1
        · skip
          have b2 : ((k : Int) == 1) = true := beq_iff_eq.2 (by omega)
          by_cases a3 : t = 0
          · skip
            have b3 : ((t : Int) == 0) = true := beq_iff_eq.2 (by omega)
            have hkv : kindV N k t c = 2 := by unfold kindV; simp [a1, a2, a3]
            have hkv' := Lib.hid hkv
            clear hkv
            clear a1 a2 a3
            go_wp2
            go_ret2
            exact ⟨by rw [hNe'.out, hCe'.out, hkv'.out]; exact rfl, hbel.out⟩
          · skip
            have b3 : ((t : Int) == 0) = false := beq_eq_false_iff_ne.2 (by omega)
            by_cases a4 : 2 * t = N
            · skip
              have b4 : (2 * (t : Int) == (N : Int)) = true := beq_iff_eq.2 (by omega)
              have hkv : kindV N k t c = 3 := by unfold kindV; simp [a1, a2, a3, a4]
              have hkv' := Lib.hid hkv
              clear hkv
              clear a1 a2 a3 a4
              go_wp2
              go_ret2
              exact ⟨by rw [hNe'.out, hCe'.out, hkv'.out]; exact rfl, hbel.out⟩
            · skip
              have b4 : (2 * (t : Int) == (N : Int)) = false := beq_eq_false_iff_ne.2 (by omega)
              have hkv : kindV N k t c = 4 := by unfold kindV; simp [a1, a2, a3, a4]
              have hkv' := Lib.hid hkv
              clear hkv
              clear a1 a2 a3 a4
              go_wp2
              go_ret2
              exact ⟨by rw [hNe'.out, hCe'.out, hkv'.out]; exact rfl, hbel.out⟩
        · skip
          have b2 : ((k : Int) == 1) = false := beq_eq_false_iff_ne.2 (by omega)
          by_cases a4 : 2 * t = N
          · skip
            have b4 : (2 * (t : Int) == (N : Int)) = true := beq_iff_eq.2 (by omega)
            by_cases a5 : c = 1
            · skip
              have b5 : ((s : Int) == (k : Int) - 1) = true := beq_iff_eq.2 (by omega)
              have hkv : kindV N k t c = 5 := by unfold kindV; simp [a1, a2, a4, a5]
              have hkv' := Lib.hid hkv
              clear hkv
              clear a1 a2 a4 a5
              go_wp2
              go_ret2
              exact ⟨by rw [hNe'.out, hCe'.out, hkv'.out]; exact rfl, hbel.out⟩
            · skip
              have b5 : ((s : Int) == (k : Int) - 1) = false := beq_eq_false_iff_ne.2 (by omega)
              have hkv : kindV N k t c = 6 := by unfold kindV; simp [a1, a2, a4, a5]
              have hkv' := Lib.hid hkv
              clear hkv
              clear a1 a2 a4 a5
              go_wp2
              go_ret2
              exact ⟨by rw [hNe'.out, hCe'.out, hkv'.out]; exact rfl, hbel.out⟩
          · skip
            have b4 : (2 * (t : Int) == (N : Int)) = false := beq_eq_false_iff_ne.2 (by omega)
            have hkv : kindV N k t c = 6 := by unfold kindV; simp [a1, a2, a4]
            have hkv' := Lib.hid hkv
            clear hkv
            clear a1 a2 a4
            go_wp2
            go_ret2
            exact ⟨by rw [hNe'.out, hCe'.out, hkv'.out]; exact rfl, hbel.out⟩
set_option maxHeartbeats 1000000 in
theorem pf_pat_Kind (v : Value) (p : Prog) (w : World) (hv : IsProg w v p) (E : Int) (hE : progE p = E) :
    Calls Try.prog 33 #[v] w fun e w' => e = .returned (.tuple #[.int .u8 (onOkI E (kindI p)), .int .i64 E]) ∧ Below w.heap.size w w' := by
  by_cases hE0 : E = 0
  · subst hE0
    exact pf_pat_Kind_ok v p w hv hE
  · have hv0 := Lib.hid hv
    obtain ⟨v0, v1, v5, rfl, h0, h1, h5⟩ := hv
    clear h0 h1 h5
    have hne : (E != 0) = true := by simpa using hE0
    rw [onOkI_ne hE0]
    have hE' := Lib.hid hE
    have hE0' := Lib.hid hE0
    clear hE0 hE
    go_enter Try.func33, Try.ntmps33
    go_wp2_with (first | (go_at_call 51; ((with_reducible refine (pf_mounted _ p _ (hv0.out.below (alc1 _ _)) E hE'.out).mono ?_); rintro e w' ⟨vb, rfl, hb1, hn1, -⟩; have hn2 := hn1 hE0'.out; subst hn2; clear hn1)))
    go_ret2
    exact ⟨rfl, ((Box.start w _).next hb1).below⟩
set_option maxRecDepth 100000 in
set_option maxHeartbeats 4000000 in
theorem pf_r4_Kind_ok (v : Value) (p : Prog) (w : World) (hv : IsProg w v p) (hE : progE p = 0) :
    Calls Try.prog 34 #[v] w fun e w' => e = .returned (.tuple #[.int .u8 (kindI p), .int .i64 0]) ∧ Below w.heap.size w w' := by
  have hv0 := Lib.hid hv
  obtain ⟨v0, v1, v5, rfl, h0, h1, h5⟩ := hv
  have h5' := Lib.hid h5
  obtain ⟨A5, c5, rfl, hc5, hm5, _, _⟩ := id h5
  unfold maxLen at hm5
  clear h0 h1 h5
  have hp := benchFacts hE
  have hs1 := hp.sh1
  have hpp := per_pos hp
  have hr1 := hp.ros1
  have hN0 := hpp.1
  have hN1 : per p ≤ 96 := by omega
  have hmt := motif_le hp
  have htb := turn_bound hp
  obtain ⟨t, ht⟩ : ∃ t : Nat, turnI p = (t : Int) := ⟨(turnI p).toNat, by omega⟩
  rw [ht] at htb
  have hk : kindI p = kindV (per p) (motifN p) t (movedC p (motifN p)) := by unfold kindI; rw [ht, Int.toNat_natCast]
  have hmot : ∀ W V, IsProg W V p → Calls Try.prog 73 #[V] W fun e w' => e = .returned (.tuple #[.int .i64 (motifN p), .int .i64 t]) ∧ Below W.heap.size W w' := fun W V h => by rw [← ht]; exact pf_r4_motif V p W h hp
  have hper : ∀ W V, IsProg W V p → Calls Try.prog 70 #[V] W fun e w' => e = .returned (.int .i64 (per p)) ∧ Below W.heap.size W w' := fun W V h => pf_r4_Period V p W h hp
  rw [hk]
  generalize hME : motifN p = m at *
  have hE' := Lib.hid hE
  have hmot' := Lib.hid hmot
  have hper' := Lib.hid hper
  have ht' := Lib.hid ht
  have hk' := Lib.hid hk
  have hME' := Lib.hid hME
  have hpp' := Lib.hid hpp
  clear hpp hME hk ht hper hmot hE
  generalize hNe : per p = N at *
  have hNe' := Lib.hid hNe
  clear hNe
  have j1 : IntKind.i64.wrap (2 * (t : Int)) = 2 * (t : Int) := IntWalk.i64_in _ (by omega)
  by_cases a1 : N = 1
  · skip
    have b1 : ((N : Int) == 1) = true := beq_iff_eq.2 (by omega)
    have hkv : ∀ c, kindV N m t c = 1 := fun c => by unfold kindV; simp [a1]
    have hkv' := Lib.hid hkv
    clear hkv
    clear a1
    go_enter Try.func34, Try.ntmps34
    go_wp2_with (first | (go_at_call 23; ((with_reducible refine (pf_r4_Check _ p _ (hv0.out.below (alc1 _ _)) 0 hE'.out).mono ?_); rintro e w' ⟨rfl, hb⟩; have hbox := (Box.start w _).next hb; obtain ⟨p0, p1, p2, p3, p4, p5⟩ := hbox.prog; clear hb)) | (go_at_call 70; ((with_reducible refine (hper'.out _ _ (hv0.out.below hbox.below)).mono ?_); rintro e w' ⟨rfl, hb⟩; have hbox2 := hbox.next hb; obtain ⟨p0, p1, p2, p3, p4, p5⟩ := hbox2.prog; clear hb hbox)) | (go_at_call 73; ((with_reducible refine (hmot'.out _ _ (hv0.out.below hbox2.below)).mono ?_); rintro e w' ⟨rfl, hb⟩; have hbox3 := hbox2.next hb; obtain ⟨p0, p1, p2, p3, p4, p5⟩ := hbox3.prog; clear hb hbox2)))
    go_ret2
    exact ⟨by rw [hkv'.out]; exact rfl, hbox3.below⟩
  · skip
    have b1 : ((N : Int) == 1) = false := beq_eq_false_iff_ne.2 (by omega)
    by_cases a2 : m = 1
    · skip
      have b2 : ((m : Int) == 1) = true := beq_iff_eq.2 (by omega)
      by_cases a3 : t = 0
      · skip
        have b3 : ((t : Int) == 0) = true := beq_iff_eq.2 (by omega)
        have hkv : ∀ c, kindV N m t c = 2 := fun c => by unfold kindV; simp [a1, a2, a3]
        have hkv' := Lib.hid hkv
        clear hkv
        clear a1 a2 a3
        go_enter Try.func34, Try.ntmps34
        go_wp2_with (first | (go_at_call 23; ((with_reducible refine (pf_r4_Check _ p _ (hv0.out.below (alc1 _ _)) 0 hE'.out).mono ?_); rintro e w' ⟨rfl, hb⟩; have hbox := (Box.start w _).next hb; obtain ⟨p0, p1, p2, p3, p4, p5⟩ := hbox.prog; clear hb)) | (go_at_call 70; ((with_reducible refine (hper'.out _ _ (hv0.out.below hbox.below)).mono ?_); rintro e w' ⟨rfl, hb⟩; have hbox2 := hbox.next hb; obtain ⟨p0, p1, p2, p3, p4, p5⟩ := hbox2.prog; clear hb hbox)) | (go_at_call 73; ((with_reducible refine (hmot'.out _ _ (hv0.out.below hbox2.below)).mono ?_); rintro e w' ⟨rfl, hb⟩; have hbox3 := hbox2.next hb; obtain ⟨p0, p1, p2, p3, p4, p5⟩ := hbox3.prog; clear hb hbox2)))
        go_ret2
        exact ⟨by rw [hkv'.out]; exact rfl, hbox3.below⟩
      · skip
        have b3 : ((t : Int) == 0) = false := beq_eq_false_iff_ne.2 (by omega)
        by_cases a4 : 2 * t = N
        · skip
          have b4 : (2 * (t : Int) == (N : Int)) = true := beq_iff_eq.2 (by omega)
          have hkv : ∀ c, kindV N m t c = 3 := fun c => by unfold kindV; simp [a1, a2, a3, a4]
          have hkv' := Lib.hid hkv
          clear hkv
          clear a1 a2 a3 a4
          go_enter Try.func34, Try.ntmps34
          go_wp2_with (first | (go_at_call 23; ((with_reducible refine (pf_r4_Check _ p _ (hv0.out.below (alc1 _ _)) 0 hE'.out).mono ?_); rintro e w' ⟨rfl, hb⟩; have hbox := (Box.start w _).next hb; obtain ⟨p0, p1, p2, p3, p4, p5⟩ := hbox.prog; clear hb)) | (go_at_call 70; ((with_reducible refine (hper'.out _ _ (hv0.out.below hbox.below)).mono ?_); rintro e w' ⟨rfl, hb⟩; have hbox2 := hbox.next hb; obtain ⟨p0, p1, p2, p3, p4, p5⟩ := hbox2.prog; clear hb hbox)) | (go_at_call 73; ((with_reducible refine (hmot'.out _ _ (hv0.out.below hbox2.below)).mono ?_); rintro e w' ⟨rfl, hb⟩; have hbox3 := hbox2.next hb; obtain ⟨p0, p1, p2, p3, p4, p5⟩ := hbox3.prog; clear hb hbox2)))
          go_ret2
          exact ⟨by rw [hkv'.out]; exact rfl, hbox3.below⟩
        · skip
          have b4 : (2 * (t : Int) == (N : Int)) = false := beq_eq_false_iff_ne.2 (by omega)
          have hkv : ∀ c, kindV N m t c = 4 := fun c => by unfold kindV; simp [a1, a2, a3, a4]
          have hkv' := Lib.hid hkv
          clear hkv
          clear a1 a2 a3 a4
          go_enter Try.func34, Try.ntmps34
          go_wp2_with (first | (go_at_call 23; ((with_reducible refine (pf_r4_Check _ p _ (hv0.out.below (alc1 _ _)) 0 hE'.out).mono ?_); rintro e w' ⟨rfl, hb⟩; have hbox := (Box.start w _).next hb; obtain ⟨p0, p1, p2, p3, p4, p5⟩ := hbox.prog; clear hb)) | (go_at_call 70; ((with_reducible refine (hper'.out _ _ (hv0.out.below hbox.below)).mono ?_); rintro e w' ⟨rfl, hb⟩; have hbox2 := hbox.next hb; obtain ⟨p0, p1, p2, p3, p4, p5⟩ := hbox2.prog; clear hb hbox)) | (go_at_call 73; ((with_reducible refine (hmot'.out _ _ (hv0.out.below hbox2.below)).mono ?_); rintro e w' ⟨rfl, hb⟩; have hbox3 := hbox2.next hb; obtain ⟨p0, p1, p2, p3, p4, p5⟩ := hbox3.prog; clear hb hbox2)))
          go_ret2
          exact ⟨by rw [hkv'.out]; exact rfl, hbox3.below⟩
    · skip
      have b2 : ((m : Int) == 1) = false := beq_eq_false_iff_ne.2 (by omega)
      have a1' := Lib.hid a1
      have a2' := Lib.hid a2
      clear a1 a2
      go_enter Try.func34, Try.ntmps34
      go_wp2_with (first | (go_at_call 23; ((with_reducible refine (pf_r4_Check _ p _ (hv0.out.below (alc1 _ _)) 0 hE'.out).mono ?_); rintro e w' ⟨rfl, hb⟩; have hbox := (Box.start w _).next hb; obtain ⟨p0, p1, p2, p3, p4, p5⟩ := hbox.prog; clear hb)) | (go_at_call 70; ((with_reducible refine (hper'.out _ _ (hv0.out.below hbox.below)).mono ?_); rintro e w' ⟨rfl, hb⟩; have hbox2 := hbox.next hb; obtain ⟨p0, p1, p2, p3, p4, p5⟩ := hbox2.prog; clear hb hbox)) | (go_at_call 73; ((with_reducible refine (hmot'.out _ _ (hv0.out.below hbox2.below)).mono ?_); rintro e w' ⟨rfl, hb⟩; have hbox3 := hbox2.next hb; obtain ⟨p0, p1, p2, p3, p4, p5⟩ := hbox3.prog; clear hb hbox2)))
      have h5w := Lib.hid (h5'.out.below hbox3.below)
      rename World => w9
      go_loop [9, 8] (fun i s => ∃ k : Nat, k ≤ m ∧ i = .int .i64 k ∧ s = .int .i64 (movedC p k)) (fun i _ => m - (intOf i).toNat)
      case atStart => exact ⟨0, Nat.zero_le _, rfl, by simp [movedC]⟩
      case round =>
        obtain ⟨k, hk, rfl, rfl⟩ := hrel
        by_cases hlt : k < m
        · have hkl : k < p.shifts.length := by omega
          obtain ⟨sb, so, hA, hbz, hck⟩ := h5w.out.look hkl
          subst hA
          have hx := hp.sh k hkl
          have hsuc := movedC_succ p k hkl
          rw [hNe'.out] at hsuc
          have hsk : movedC p k ≤ k := by have := count_both p k (by omega); omega
          generalize p.shifts[k] = x at hck hx hsuc
          have j3 : x.tmod (N : Int) = x % (N : Int) := Int.tmod_eq_emod_of_nonneg hx.1
          have k1 : ((N : Int) == 0) = false := beq_eq_false_iff_ne.2 (by omega)
          have hsuc' := Lib.hid hsuc
          clear hsuc
          by_cases hz0 : x % (N : Int) = 0
          · have hz : (x % (N : Int) != 0) = false := by simpa using hz0
            have hss : movedC p (k + 1) = movedC p k := by rw [hsuc'.out, if_pos hz0]; rfl
            have hss' := Lib.hid hss
            have hz0' := Lib.hid hz0
            clear hz0 hss
            go_wp2
            go_round
            case rel => exact ⟨k + 1, by omega, by go_num, by rw [hss'.out]⟩
            case measure => simp [intOf]; omega
          · have hz : (x % (N : Int) != 0) = true := by simpa using hz0
            have hss : movedC p (k + 1) = movedC p k + 1 := by rw [hsuc'.out, if_neg hz0]
            have hss' := Lib.hid hss
            have hz0' := Lib.hid hz0
            clear hz0 hss
            go_wp2
            go_round
            case rel => exact ⟨k + 1, by omega, by go_num, by rw [hss'.out]; go_num⟩
            case measure => simp [intOf]; omega
        · obtain rfl : k = m := by omega
          have a1 := a1'.out
          have a2 := a2'.out
          generalize hCe : movedC p k = c
          have hCe' := Lib.hid hCe
          clear hCe
          by_cases a4 : 2 * t = N
          · skip
            have b4 : (2 * (t : Int) == (N : Int)) = true := beq_iff_eq.2 (by omega)
            by_cases a5 : c = 1
            · skip
              have b5 : ((c : Int) == 1) = true := beq_iff_eq.2 (by omega)
              have hkv : kindV N k t c = 5 := by unfold kindV; simp [a1, a2, a4, a5]
              have hkv' := Lib.hid hkv
              clear hkv
              clear a1 a2 a4 a5
              go_wp2
              go_ret2
              exact ⟨by rw [hCe'.out, hkv'.out]; exact rfl, hbox3.below⟩
            · skip
              have b5 : ((c : Int) == 1) = false := beq_eq_false_iff_ne.2 (by omega)
              have hkv : kindV N k t c = 6 := by unfold kindV; simp [a1, a2, a4, a5]
              have hkv' := Lib.hid hkv
              clear hkv
              clear a1 a2 a4 a5
              go_wp2
              go_ret2
              exact ⟨by rw [hCe'.out, hkv'.out]; exact rfl, hbox3.below⟩
          · skip
            have b4 : (2 * (t : Int) == (N : Int)) = false := beq_eq_false_iff_ne.2 (by omega)
            have hkv : kindV N k t c = 6 := by unfold kindV; simp [a1, a2, a4]
            have hkv' := Lib.hid hkv
            clear hkv
            clear a1 a2 a4
            go_wp2
            go_ret2
            exact ⟨by rw [hCe'.out, hkv'.out]; exact rfl, hbox3.below⟩
set_option maxHeartbeats 1000000 in
theorem pf_r4_Kind (v : Value) (p : Prog) (w : World) (hv : IsProg w v p) (E : Int) (hE : progE p = E) :
    Calls Try.prog 34 #[v] w fun e w' => e = .returned (.tuple #[.int .u8 (onOkI E (kindI p)), .int .i64 E]) ∧ Below w.heap.size w w' := by
  by_cases hE0 : E = 0
  · subst hE0
    exact pf_r4_Kind_ok v p w hv hE
  · have hv0 := Lib.hid hv
    obtain ⟨v0, v1, v5, rfl, h0, h1, h5⟩ := hv
    clear h0 h1 h5
    have hne : (E != 0) = true := by simpa using hE0
    rw [onOkI_ne hE0]
    have hE' := Lib.hid hE
    have hE0' := Lib.hid hE0
    clear hE0 hE
    go_enter Try.func34, Try.ntmps34
    go_wp2_with (first | (go_at_call 23; ((with_reducible refine (pf_r4_Check _ p _ (hv0.out.below (alc1 _ _)) E hE'.out).mono ?_); rintro e w' ⟨rfl, hb1⟩)))
    go_ret2
    exact ⟨rfl, ((Box.start w _).next hb1).below⟩
end Go.Proofs.Ytnboppombhibbaa
