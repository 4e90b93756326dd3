/- read.dropped. read.Conflict. read.CheckConflict. -/
import Derived.Test.YtphdalgaemefoaaGreatRos2
import Derived.Test.YtphdalgaemefoaaGreatReadLaw
import Derived.Test.YtphdalgaemefoaaGreatRdSome
import Derived.Test.YtphdalgaemefoaaGreatRdTag
import Derived.Test.YtphdalgaemefoaaGreatMonoR
namespace Go.Proofs.YtphdalgaemefoaaGreat
set_option maxRecDepth 100000
set_option maxHeartbeats 1000000
open Go.RowKit Go.Shelf
set_option linter.unusedVariables false
set_option linter.unusedSimpArgs false
theorem pf_dropped (v : Value) (l : List Int) (k : Nat) (w : World) (hv : Ints w v l) (hk : k < l.length) (hn : l.length ≤ 1000) :
  Calls Tryz.prog 37 #[v, .int .i64 (k : Int)] w fun e w' => ∃ v', e = .returned v' ∧ Below w.heap.size w w' ∧ w'.ownsRow w.heap.size 3 1 v' (l.eraseIdx k).length ((l.eraseIdx k).map vint) := by
 have hv0 := Lib.hid hv
 obtain ⟨A, c, rfl, hlc, hcm, hAN, hr⟩ := hv
 unfold maxLen at hcm
 clear hr hAN
 have r1 := fun W => run_cut_l (elemInt : Elem1 Tryz.prog 36 3 (.int .i64 0) 8) A l.length c (k + 1) (by omega) W
 have r2 := fun W => run_cut_h (elemInt : Elem1 Tryz.prog 36 3 (.int .i64 0) 8) A l.length c k (by omega) W
 have hA1 := hv0.out.cut (k + 1) l.length (by omega) (Nat.le_refl _)
 have hA2 := hv0.out.cut 0 k (Nat.zero_le _) (by omega)
 have e0 : cutA A c 0 = A := by
  unfold cutA
  split
  ·rfl
  ·cases A <;> simp [Addr.add]
 rw [e0, Nat.sub_zero, Nat.sub_zero, List.drop_zero] at hA2
 have e1 : (l.drop (k + 1)).take (l.length - (k + 1)) = l.drop (k + 1) := List.take_of_length_le (by simp)
 rw [e1] at hA1
 simp only [Int.natCast_add, Int.natCast_one] at r1
 generalize hX : cutA A c (k + 1) = X at r1 hA1
 have hsp : (l.eraseIdx k) = [l.take k, l.drop (k + 1)].flatten := by rw [eraseIdx_split]; simp
 have hfl : [l.take k, l.drop (k + 1)].flatten.length ≤ 1000000 := by rw [← hsp, List.length_eraseIdx]; split <;> omega
 rw [hsp]
 have hcc : ∀ (v2 : Value) (W : World), Arr id W v2 [.slice A k c, .slice X (l.length - (k + 1)) (c - (k + 1))] → Below w.heap.size w W → Calls Tryz.prog 58 #[v2] W fun e w' => ∃ v', e = .returned v' ∧ Below W.heap.size W w' ∧ w'.ownsRow W.heap.size 3 1 v' [l.take k, l.drop (k + 1)].flatten.length ([l.take k, l.drop (k + 1)].flatten.map vint) := by
  intro v2 W h1 hb
  refine pf_Concat v2 _ [l.take k, l.drop (k + 1)] W h1 rfl (fun j h h' => ?_) hfl (by simp)
  match j, h, h' with
  | 0, _, _ => exact hA2.below hb
  | 1, _, _ => exact hA1.below hb
 have hwk : IntKind.i64.wrap ((k : Int) + 1) = (k : Int) + 1 := IntWalk.i64_in _ (by omega)
 have i1 : (0 : Int) ≤ (k : Int) := by omega
 have i2 : (k : Int) ≤ (l.length : Int) := by omega
 have i3 : (k : Int) ≤ (c : Int) := by omega
 have i4 : (k : Int) + 1 ≤ (l.length : Int) := by omega
 have i5 : (0 : Int) ≤ (k : Int) + 1 := by omega
 have i6 : (l.length : Int) ≤ (c : Int) := by omega
 have ⟨hsp', hfl', hcc', hA1', hA2', hX', e0', e1'⟩ := hyd8 hsp hfl hcc hA1 hA2 hX e0 e1
 clear e1 e0 hX hA2 hA1 hcc hfl hsp
 go_enter Tryz.func37, Tryz.ntmps37
 go_wp2
 go_region_held3 (fun _ => True) (go_keep) (first | (go_at_call 58; refine (hcc'.out _ _ (one_two _ _ _ _) (by first | exact (alc1 _ _).drew)).mono ?_; rintro e w' ⟨v', rfl, h1, h2⟩))
 go_wp2
 go_ret
 exact ⟨v', rfl, (alc1 _ _).drew.trans (h1.mono (by simp)), own_base h2 (by simp)⟩
end Go.Proofs.YtphdalgaemefoaaGreat
namespace Go.Proofs.YtphdalgaemefoaaGreat
set_option maxRecDepth 100000
set_option maxHeartbeats 1000000
open Go.RowKit Go.Shelf
set_option linter.unusedVariables false
set_option linter.unusedSimpArgs false
attribute [local go_sem] Oper.semAt_some
theorem idxL_length (n : Nat) : (idxL n).length = n := by unfold idxL; simp
theorem idxL_succ (n : Nat) : idxL (n + 1) = idxL n ++ [(n : Int)] := by unfold idxL; rw [List.range_succ, List.map_append]; rfl
theorem idxL_mem {n : Nat} {i : Int} (h : i ∈ idxL n) : 0 ≤ i ∧ i < (n : Int) := by
 unfold idxL at h
 obtain ⟨k, hk, rfl⟩ := List.mem_map.1 h
 have := List.mem_range.1 hk
 omega
theorem ints_turn {w W : World} {v : Value} {L : List Int} {row : Option Nat} (h : Ints w v L) (hg : w.grownBy W row) (hr : ∀ r, row = some r → ∃ o : Obj, w.heap[r]? = some o ∧ o.isCells = false) : Ints W v L := by
 obtain ⟨A, c, hv, h1, h2, hN, h3⟩ := h
 refine ⟨A, c, hv, h1, h2, hN, fun h0 => ?_⟩
 obtain ⟨b, off, ha, hlt, hc⟩ := h3 h0
 exact ⟨b, off, ha, Nat.lt_of_lt_of_le hlt hg.size, fun j hj => cell_kept (hc j hj) hg hr⟩
theorem ints_keep {w W : World} {v : Value} {L : List Int} (h : Ints w v L) (hk : ∀ (k : Nat) (o : Obj), w.heap[k]? = some o → o.isCells = true → W.heap[k]? = some o) (hs : w.heap.size ≤ W.heap.size) : Ints W v L := by
 obtain ⟨A, c, hv, h1, h2, hN, h3⟩ := h
 refine ⟨A, c, hv, h1, h2, hN, fun h0 => ?_⟩
 obtain ⟨b, off, ha, hlt, hc⟩ := h3 h0
 refine ⟨b, off, ha, Nat.lt_of_lt_of_le hlt hs, fun j hj => ?_⟩
 have h9 := hc j hj
 refine (World.cell?_of_block (a := ⟨b, off + j, none⟩) ?_).trans h9
 show W.heap[b]? = w.heap[b]?
 cases e : w.heap[b]? with
 | none => simp [World.cell?, e] at h9
 | some o =>
  refine hk b o e ?_
  cases o <;> first | rfl | simp [World.cell?, e] at h9
structure CfS (p : Pic) (N k : Nat) (L : List Int) : Prop where
 go : confGo p (N - k) L = confGo p N (idxL N)
 len : N - k ≤ L.length
 mem : ∀ i ∈ L, 0 ≤ i ∧ i < (p.rds.length : Int)
 most : L.length ≤ 60
theorem CfS.start {p : Pic} (h : p.rds.length ≤ 60) : CfS p p.rds.length 0 (idxL p.rds.length) := ⟨rfl, by rw [idxL_length]; omega, fun i hi => idxL_mem hi, by rw [idxL_length]; exact h⟩
theorem CfS.step {p : Pic} {N k m : Nat} {L : List Int} (h : CfS p N k L) (hm : m + k + 1 = N) : CfS p N (k + 1) (if someP p (L.eraseIdx m) then L else L.eraseIdx m) := by
 have h1 := h.go
 rw [show N - k = m + 1 by omega] at h1
 have h2 := h.len
 rw [show N - k = m + 1 by omega] at h2
 have h3 : N - (k + 1) = m := by omega
 refine ⟨by rw [h3]; exact h1, ?_, ?_, ?_⟩
 ·rw [h3]; split
  ·omega
  ·rw [List.length_eraseIdx, if_pos (by omega)]; omega
 ·split
  ·exact h.mem
  ·exact fun i hi => h.mem i (List.mem_of_mem_eraseIdx hi)
 ·split
  ·exact h.most
  ·rw [List.length_eraseIdx]; have := h.most; split <;> omega
theorem CfS.fin {p : Pic} {N : Nat} {L : List Int} (h : CfS p N N L) : L = confGo p N (idxL N) := by have := h.go; rw [Nat.sub_self] at this; exact this
theorem CfS.erase {p : Pic} {N k m : Nat} {L : List Int} (h : CfS p N k L) : (∀ i ∈ L.eraseIdx m, 0 ≤ i ∧ i < (p.rds.length : Int)) ∧ (L.eraseIdx m).length ≤ 60 := ⟨fun i hi => h.mem i (List.mem_of_mem_eraseIdx hi), by rw [List.length_eraseIdx]; have := h.most; split <;> omega⟩
def CfI (W2 : World) (Lb : Nat) (k : Nat) (W : World) : Prop := ∃ v, Below Lb W2 W ∧ W.heap[Lb]? = some (.cells #[v] 36) ∧ W.ownsRow W2.heap.size 3 1 v (idxL k).length ((idxL k).map vint) ∧ W2.heap.size ≤ W.heap.size
theorem pf_rd_Conflict (v : Value) (p : Pic) (w : World) (hp : IsPic w v p) (hf : p.Fit) (hst : p.steps ≤ 24) :
  Calls Tryz.prog 15 #[v] w fun e w' => ∃ v', e = .returned (.tuple #[v', .int .i64 (confE p)]) ∧ Below w.heap.size w w' ∧ Ints w' v' (confL p) := by
 have hp9 := hp
 obtain ⟨vh, vr, rfl, hh, hr⟩ := hp
 obtain ⟨HA, hc, rfl, hhl⟩ := hh.slice
 obtain ⟨RA, rc, rfl, hrl⟩ := hr.slice
 unfold maxLen at hhl hrl
 obtain ⟨W1, hW1, hb1, k1⟩ := newb w (.cells #[.slice HA p.hs.length hc, .int .i64 p.tl, .int .i64 p.th, .int .i64 p.al, .int .i64 p.ah, .slice RA p.rds.length rc] 25)
 obtain ⟨c0, c1, c2, c3, c4, c5⟩ := pc6 k1
 have kck := pf_rd_Check _ p W1 (hp9.le hb1) hf
 obtain ⟨E, hE⟩ : ∃ E, picE p = E := ⟨_, rfl⟩
 rw [hE] at kck
 have hEB : E = if picB p then 0 else 90 := by rw [← hE]; rfl
 have ⟨hp9', hh', hr', hf', hb1', k1', kck', hE'⟩ := hyd8 hp9 hh hr hf hb1 k1 kck hE
 have hEB' := hyd1 hEB
 clear hEB hE kck k1 hb1 hf hr hh hp9
 refine (callsIn_wide (n := 5)).1 ?_
 refine callsIn_of_wp_marks Tryz.func15 rfl trivial ?_ rfl
 simp only [Tryz.ntmps15, List.size_toArray, List.length_cons, List.length_nil, Nat.reduceAdd, Nat.reduceSub, Array.replicate_succ, Array.replicate_zero, List.push_toArray, List.append_toArray, List.nil_append, List.cons_append]
 refine wpIn_wide.2 ?_
 go_wp2_with (fail)
 go_at_call 19
 refine kck'.out.mono ?_
 rintro e W2 ⟨rfl, hb2⟩
 have hbw2 := bel_set hb1'.out hb2
 have k12 := blk hb2 k1'.out
 clear c0 c1 c2 c3 c4 c5
 cases hB : picB p with
 | false =>
  have hE9 : E = 90 := by rw [hEB'.out, hB]; rfl
  have hres : confE p = 90 := by unfold confE; rw [hB]; rfl
  have hv : confL p = [] := by unfold confL; rw [hres]; rfl
  subst hE9
  have ⟨hb2', hbw2', k12', hB', hres', hv'⟩ := hyd6 hb2 hbw2 k12 hB hres hv
  clear hv hres hB k12 hbw2 hb2
  go_wp2
  refine leaves_marks w.heap.size [] _ trivial fun w9 hb hkeep => ?_
  exact ⟨_, results_tmp2 rfl _ _ _, _, by rw [hres'.out]; rfl, hbw2'.out.trans hb, by rw [hv'.out]; exact Arr.nil _ _⟩
 | true =>
  have hE9 : E = 0 := by rw [hEB'.out, hB]; rfl
  subst hE9
  have hok := picB_iff.1 hB
  have hreads := hok.reads
  obtain ⟨N, hN⟩ : ∃ N, p.rds.length = N := ⟨_, rfl⟩
  have hN60 : 1 ≤ N ∧ N ≤ 60 := by omega
  obtain ⟨W3, hW3, hb3, k3⟩ := newb W2 (.cells #[.slice none 0 0] 36)
  obtain ⟨Lb, hLb⟩ : ∃ L, W2.heap.size = L := ⟨_, rfl⟩
  have hLs : Lb < W3.heap.size := by rw [← hLb]; exact gsl k3
  have hwL : w.heap.size < Lb := by rw [← hLb]; exact gsl k12
  rw [hLb] at k3 hb3
  have hb23 : Below w.heap.size w W3 := hbw2.trans (hb3.mono (by omega))
  have k13 := (hb3.block _ hwL).trans k12
  obtain ⟨c0, c1, c2, c3, c4, c5⟩ := pc6 k13
  have hI0 : CfI W3 Lb 0 W3 := ⟨_, Below.refl _ _, k3, World.ownsRow_nil _ _ _ _, Nat.le_refl _⟩
  have ⟨hb2', hbw2', k12', hB', hok', hb3', k3', hb23'⟩ := hyd8 hb2 hbw2 k12 hB hok hb3 k3 hb23
  have ⟨k13', hI0', hN'⟩ := hyd3 k13 hI0 hN
  clear hN hI0 k13 hb23 k3 hb3 hok hB k12 hbw2 hb2
  go_wp2_with (fail)
  clear c0 c1 c2 c3 c4 c5
  clear hW3
  go_loopw [17] (fun kx wr => ∃ k : Nat, k ≤ N ∧ kx = .int .i64 (k : Int) ∧ Hid (CfI W3 Lb k wr)) (fun kx _ => N - (intOf kx).toNat)
  case atStart => exact ⟨0, Nat.zero_le _, rfl, hI0'⟩
  case round =>
   obtain ⟨k, hk, rfl, hI⟩ := hrel
   obtain ⟨v, hbr, kL, ho, hzr⟩ := hI.out
   obtain ⟨AO, cO, rfl⟩ := slice_formR ho
   have hkN : k ≤ 60 := by omega
   by_cases hlt : k < N
   ·have kc := cellOne kL
    have kf := pfrz kL 0
    have hil := idxL_length k
    have j1 : (k : Int) < (p.rds.length : Int) := by have := hN'.out; omega
    have hsuc := idxL_succ k
    have h3L : ∀ W, Below W3.heap.size (wr.alloc (.cells #[.int .i64 (k : Int)] 3)) W → W.heap[Lb]? = some (.cells #[.slice AO (idxL k).length cO] 36) := fun W h => (h.block _ hLs).trans ((Below.heap_alloc _ _ _ (by omega)).trans kL)
    have ⟨hI', hbr', kL', ho', hil', hsuc', h3L'⟩ := hyd7 hI hbr kL ho hil hsuc h3L
    clear h3L hsuc hil ho kL hbr hI
    go_wp2_with (first | (at_builtin; go_must (refine wpList_appI rfl _ _ 36 rfl W3.heap.size 3 elemInt _ (idxL k) rfl (ho'.out.alloc _) _ [(k : Int)] rfl (one_newI _ _ _) (by simp [hil'.out]; omega) (by simp; omega) ?_)))
    intro v3 w3 h1 h2 h3 _
    have h1b : w3.ownsRow W3.heap.size 3 1 v3 (idxL (k + 1)).length ((idxL (k + 1)).map vint) := by rw [hsuc'.out, List.length_append, List.map_append]; exact h1
    obtain ⟨A3, c3, rfl⟩ := slice_formR h1b
    have k3' := h3L'.out w3 h2
    have kc3 := cellOne k3'
    have kf3 := pfrz k3' 0
    have hbx : Below Lb W3 w3 := (hbr'.out.trans (((Below.refl _ wr).alloc (Nat.le_refl _) _).mono (by omega))).trans (h2.mono (by omega))
    have hzx := hbx.size
    have hN9 : CfI W3 Lb (k + 1) (w3.setCell ⟨Lb, 0, none⟩ (.slice A3 (idxL (k + 1)).length c3)) := ⟨_, Below.setCell hbx (p := ⟨Lb, 0, none⟩) (Nat.le_refl _) _, heap_set k3' 0 _, own_apart h1b hLs _, by simpa using hzx⟩
    clear kc kf
    have ⟨h1', h1b', h2', h3', k3'', hbx', hN9'⟩ := hyd7 h1 h1b h2 h3 k3' hbx hN9
    clear hN9 hbx k3' h3 h2 h1b h1
    go_wp2
    go_roundw
    case rel => exact ⟨k + 1, by omega, by go_num, hN9'⟩
    case measure => simp [intOf]; omega
   ·obtain rfl : k = N := by omega
    have hii : Ints wr (.slice AO (idxL k).length cO) (idxL k) := Arr.of_own ho
    have hil := idxL_length k
    have jn : ¬ k < p.rds.length := by rw [hN'.out]; omega
    have jn2 : ¬ (k : Int) < (p.rds.length : Int) := by omega
    have hk1 : 1 ≤ k := by have := hN'.out; omega
    have hw0r : Below w.heap.size w wr := hb23'.out.trans (hbr.mono (by omega))
    have kp := (hbr.block _ hwL).trans k13'.out
    obtain ⟨c0, c1, c2, c3, c4, c5⟩ := pc6 kp
    have kc := cellOne kL
    have hmem : ∀ i ∈ idxL k, 0 ≤ i ∧ i < (p.rds.length : Int) := fun i hi => by rw [hN'.out]; exact idxL_mem hi
    have ksm := pf_rd_some _ _ p (idxL k) wr (hp9'.out.le hw0r) hok'.out.toM hst hii hmem (by omega)
    obtain ⟨SB, hSB⟩ : ∃ b, someP p (idxL k) = b := ⟨_, rfl⟩
    rw [hSB] at ksm
    obtain ⟨q, off, cq, heq, hbl, hle9, hmx, hcell⟩ := Ints.cells hii (by omega)
    injection heq with e1 e2 e3
    subst e1 e3
    clear e2
    cases SB with
    | true =>
     have hE6 : confE p = 6 := by unfold confE; rw [hB'.out, hN'.out, hSB]; rfl
     have hv6 : confL p = [] := by unfold confL; rw [hE6]; rfl
     have ⟨hI', hbr', kL', ho', hii', hw0r', kp', ksm'⟩ := hyd8 hI hbr kL ho hii hw0r kp ksm
     have ⟨hSB', hcell', hE6', hv6', hmem', hil'⟩ := hyd6 hSB hcell hE6 hv6 hmem hil
     clear hil hmem hv6 hE6 hcell hSB ksm kp hw0r hii ho kL hbr hI
     go_wp2_with (first | (go_at_call 35; ((with_reducible refine (ksm'.out).mono ?_); rintro e w' ⟨rfl, hb5⟩)))
     refine leaves_marks w.heap.size [] _ trivial fun w9 hb hkeep => ?_
     exact ⟨_, results_tmp2 rfl _ _ _, _, by rw [hE6'.out]; rfl, (bel_set hw0r'.out hb5).trans hb, by rw [hv6'.out]; exact Arr.nil _ _⟩
    | false =>
     have hE0 : confE p = 0 := by unfold confE; rw [hB'.out, hN'.out, hSB]; rfl
     have hv0 : confL p = confGo p k (idxL k) := by unfold confL; rw [hE0, hN'.out]; rfl
     have ⟨hI', hbr', kL', ho', hii', hw0r', kp', ksm'⟩ := hyd8 hI hbr kL ho hii hw0r kp ksm
     have ⟨hSB', hcell', hE0', hv0', hmem', hil'⟩ := hyd6 hSB hcell hE0 hv0 hmem hil
     clear hil hmem hv0 hE0 hcell hSB ksm kp hw0r hii ho kL hbr hI
     go_wp2_with (first | (go_at_call 35; ((with_reducible refine (ksm'.out).mono ?_); rintro e w' ⟨rfl, hb5⟩; have kL5 := blk hb5 kL'.out; have kc5 := cellOne kL5)) | (go_at_call 36; ((with_reducible refine (pf_backInts _ _ _ _).mono ?_); rintro e w' ⟨rfl, rfl⟩)))
     obtain ⟨W6, hW6, hb6, k6⟩ := newb w' (.cells #[.slice (some ⟨q, off, none⟩) (idxL k).length cO] 36)
     obtain ⟨Bn, hBn⟩ : ∃ b, w'.heap.size = b := ⟨_, rfl⟩
     rw [hW6, hBn]
     rw [hBn] at k6
     clear hW6 c0 c1 c2 c3 c4 c5 kc kc5
     have hb56 := bel_set hb5 hb6
     have hBn6 : Bn < W6.heap.size := gsl k6
     have hLw : Lb < wr.heap.size := gsl kL'.out
     have hww' := hb5.size
     have hLB : Lb < Bn := by omega
     have hq6 : q < W6.heap.size := by have := hb6.size; omega
     have hqL : Lb < q := by have := (ho'.out.lt q rfl).1; omega
     have hc6 : ∀ j (h : j < (idxL k).length), W6.cell? ⟨q, off + j, none⟩ = some (.int .i64 (idxL k)[j]) := fun j h => (hb56.cell (p := ⟨q, off + j, none⟩) hbl).trans (hcell'.out j h)
     have hil9 := hil'.out
     rw [hil9] at k6
     have hby := backInts_yields k q off cO (idxL k) W6 Bn Lb (by omega) hil9 hBn6 (by omega) hq6 hc6 (cellOne k6) (by omega)
     have kL6 := blk hb6 kL5
     have hii6 := hii'.out.below hb56
     have hw06 : Below w.heap.size w W6 := bel_set hw0r'.out hb56
     have kp6 := blk hb56 kp'.out
     have hst0 : CfS p k 0 (idxL k) := by have h := CfS.start (p := p) (by rw [hN'.out]; omega); rw [hN'.out] at h; exact h
     have hkt : ∀ (A B : World) (row : Option Nat), Kept Lb [Bn, q] W6 A → A.grownBy B row → (∀ r, row = some r → W6.heap.size ≤ r ∧ ∃ o : Obj, A.heap[r]? = some o ∧ o.isCells = false) → Kept Lb [Bn, q] W6 B := fun A B row h hg hr => by
      have hz := h.1.size
      refine ⟨Below.grown h.1 hg (by omega) (fun r e => by have := (hr r e).1; omega), fun b hb => ?_⟩
      refine (hg.block b ?_ (fun e => ?_)).trans (h.2 b hb)
      ·simp at hb; rcases hb with rfl | rfl <;> omega
      ·have := (hr b e.symm).1; simp at hb; rcases hb with rfl | rfl <;> omega
     have hkb : ∀ (A B : World), Kept Lb [Bn, q] W6 A → Below A.heap.size A B → Kept Lb [Bn, q] A B := fun A B h hb => ⟨hb.mono (by have := h.1.size; omega), fun b hm => hb.block b (by have := h.1.size; simp at hm; rcases hm with rfl | rfl <;> omega)⟩
     have hkc : ∀ (A : World) (v : Value), Kept Lb [Bn, q] A (A.setCell ⟨Lb, 0, none⟩ v) := fun A v => ⟨Below.setCell (Below.refl _ _) (p := ⟨Lb, 0, none⟩) (Nat.le_refl _) _, fun b hm => Below.heap_setCell _ ⟨Lb, 0, none⟩ _ b (by show b ≠ Lb; simp at hm; rcases hm with rfl | rfl <;> omega)⟩
     have ⟨hb5', kL5', k6', hb6', hb56', hc6', hby', kL6'⟩ := hyd8 hb5 kL5 k6 hb6 hb56 hc6 hby kL6
     have ⟨hii6', hw06', kp6', hst0', hkt', hkb', hkc', hil9'⟩ := hyd8 hii6 hw06 kp6 hst0 hkt hkb hkc hil9
     have hBn' := hyd1 hBn
     clear hBn hil9 hkc hkb hkt hst0 kp6 hw06 hii6 kL6 hby hc6 hb56 hb6 k6 kL5 hb5
     refine (wpIn_wide (n := 5)).1 ?_
     refine wpIn_rangeFunc_ownO rfl (by omega) (gf := 59) (lb := #[.pointer (some ⟨Bn, 0, none⟩)]) rfl trivial (enters_of Tryz.func59 (by kernel_rfl) rfl)
      hby'.out Kept.trans (Kept.put (by omega) (fun b hm => by simp at hm; rcases hm with rfl | rfl <;> omega)) (Below.refl _ _) (fun _ => rfl)
      (fun pre W => ∃ L v, CfS p k pre.length L ∧ Kept Lb [Bn, q] W6 W ∧ W.heap[Lb]? = some (.cells #[v] 36) ∧ Ints W v L)
      (fun _ _ _ => False)
      (fun s A B row hs hg hr => by obtain ⟨L, v, h1, h2, h3, h4⟩ := hs; exact ⟨L, v, h1, hkt'.out A B row h2 hg hr, ownFrom_cells W6.heap.size _ _ _ () A B row h3 hg hr, ints_turn h4 hg (fun r e => (hr r e).2)⟩)
      (fun c s A B row hs hg hr => hs) ⟨_, _, hst0'.out, Kept.refl _ _ _, kL6'.out, hii6'.out⟩
      (fun pre x a' _ => (∃ u : Nat → Value, a' = { tmps := #[(u 0), .pointer (some ⟨w.heap.size, 0, none⟩), (u 2), (u 3), (u 4), .pointer (some ⟨Lb, 0, none⟩), (u 6), .int .i64 (x.1 : Int), (u 8), (u 9), (u 10), (u 11), (u 12), (u 13), (u 14), (u 15), (u 16), (u 17), (u 18), (u 19), (u 20), (u 21), (u 22), (u 23), (u 24), (u 25), (u 26), (u 27), (u 28), (u 29), (u 30), (u 31), (u 32), (u 33), (u 34), (u 35), (u 36), (u 37), (u 38), (u 39), (u 40)], defers := [] }) ∧ x.1 + pre.length + 1 = k) (fun pre x a' V o o' h _ => h) ?assign ?body ?done ?stop
     case assign =>
      intro la pre x V K hI hG hK
      dsimp only [biEnc]
      gi_wp2
      refine hK _ V (KeepsFrom.refl _ _) (Kept.refl _ _ _) hI ⟨?_, hG⟩
      obtain ⟨u, hu⟩ := frame_mkS (fun u : Nat → Value => #[(u 0), .pointer (some ⟨w.heap.size, 0, none⟩), (u 2), (u 3), (u 4), .pointer (some ⟨Lb, 0, none⟩), (u 6), .int .i64 (x.1 : Int), (u 8), (u 9), (u 10), (u 11), (u 12), (u 13), (u 14), (u 15), (u 16), (u 17), (u 18), (u 19), (u 20), (u 21), (u 22), (u 23), (u 24), (u 25), (u 26), (u 27), (u 28), (u 29), (u 30), (u 31), (u 32), (u 33), (u 34), (u 35), (u 36), (u 37), (u 38), (u 39), (u 40)]) _ (by kernel_rfl)
      exact ⟨u, congrArg (fun t => ({ tmps := t, defers := [] } : Act)) hu⟩
     case body =>
      rintro la pre x a' V ⟨L, v, hC, hKV, kV, hiL⟩ ⟨⟨u, rfl⟩, hx⟩ hlen
      obtain ⟨m, xv⟩ := x
      dsimp only at hx
      have hml : m < L.length := by have := hC.len; omega
      have hmost := hC.most
      have hstep := hC.step (m := m) (by omega)
      obtain ⟨hem, hel⟩ := hC.erase (m := m)
      obtain ⟨VA, vc, rfl, -⟩ := id hiL
      have kc := cellOne kV
      have hw0V : Below w.heap.size w V := hw06'.out.trans (hKV.1.mono (by omega))
      have kpV := (hKV.1.block _ hwL).trans kp6'.out
      obtain ⟨c0, c1, c2, c3, c4, c5⟩ := pc6 kpV
      have kdr := pf_dropped _ L m V hiL hml (by omega)
      have hVL : Lb < V.heap.size := gsl kV
      have ⟨hC', hKV', kV', hiL', hstep', hem', hel', hw0V'⟩ := hyd8 hC hKV kV hiL hstep hem hel hw0V
      have ⟨kpV', kdr'⟩ := hyd2 kpV kdr
      clear kdr kpV hw0V hel hem hstep hiL kV hKV hC
      gi_wp2_with (first | (refine ⟨trivial, ?_⟩; gi_at_call 37; refine (callsIn_wide.2 (kdr'.out)).mono ?_; rintro e w' ⟨v8, rfl, hb8, ho8⟩; (obtain ⟨A8, c8, rfl⟩ := slice_formR ho8); have kp9 := blk hb8 kpV'.out; (obtain ⟨d0, d1, d2, d3, d4, d5⟩ := pc6 kp9)))
      have hi8 : Ints w' (.slice A8 (L.eraseIdx m).length c8) (L.eraseIdx m) := Arr.of_own ho8
      have ksm9 := pf_rd_some _ _ p (L.eraseIdx m) w' (hp9'.out.le (bel_set hw0V'.out hb8)) hok'.out.toM hst hi8 hem'.out hel'.out
      have kV8 := blk hb8 kV'.out
      clear c0 c1 c2 c3 c4 c5 d0 d1 d2 d3 d4 d5 kc
      have hst9 := hstep'.out
      cases hS9 : someP p (L.eraseIdx m) with
      | true =>
       rw [hS9] at ksm9
       rw [hS9, if_pos rfl] at hst9
       have ⟨hb8', ho8', hi8', ksm9', kV8', hst9', hS9'⟩ := hyd7 hb8 ho8 hi8 ksm9 kV8 hst9 hS9
       clear hS9 hst9 kV8 ksm9 hi8 ho8 hb8
       gi_wp2_with (first | (refine ⟨trivial, ?_⟩; gi_at_call 35; refine (callsIn_wide.2 (ksm9'.out)).mono ?_; rintro e w' ⟨rfl, hb9⟩))
       have hb89 := bel_set hb8'.out hb9
       exact ⟨KeepsFrom.of_grownBy (grown_of_below hb89) (fun j e => by cases e), hkb'.out _ _ hKV'.out hb89, L, _, by rw [List.length_append]; exact hst9'.out, hKV'.out.trans (hkb'.out _ _ hKV'.out hb89), blk hb89 kV'.out, hiL'.out.below hb89⟩
      | false =>
       rw [hS9] at ksm9
       rw [hS9, if_neg (by decide)] at hst9
       have ⟨hb8', ho8', hi8', ksm9', kV8', hst9', hS9'⟩ := hyd7 hb8 ho8 hi8 ksm9 kV8 hst9 hS9
       clear hS9 hst9 kV8 ksm9 hi8 ho8 hb8
       gi_wp2_with (first | (refine ⟨trivial, ?_⟩; gi_at_call 35; refine (callsIn_wide.2 (ksm9'.out)).mono ?_; rintro e w' ⟨rfl, hb9⟩; have kV9 := blk hb9 kV8'.out; have kc9 := cellOne kV9; have kf9 := pfrz kV9 0))
       have hb89 := bel_set hb8'.out hb9
       rename World => W9
       have hv9 := hkb'.out _ _ hKV'.out hb89
       have hki := (hKV'.out.trans hv9).trans (hkc'.out W9 (.slice A8 (L.eraseIdx m).length c8))
       have hi9 : Ints (W9.setCell ⟨Lb, 0, none⟩ (.slice A8 (L.eraseIdx m).length c8)) (.slice A8 (L.eraseIdx m).length c8) (L.eraseIdx m) := Arr.of_own (own_apart (own_below ho8'.out hb9) (by omega) _)
       exact ⟨(KeepsFrom.of_grownBy (grown_of_below hb89) (fun j e => by cases e)).trans ((KeepsOthers.setCell _ _ _).from _), hv9.trans (hkc'.out W9 _), _, _, by rw [List.length_append]; exact hst9'.out, hki, heap_set kV9 0 _, hi9⟩
     case done =>
      rintro D xs V hD hS ⟨L, v, hC, hKV, kV, hiL⟩ hK
      rw [show xs.length = k from hS] at hC
      have hL := hC.fin
      have hw0V : Below w.heap.size w V := hw06'.out.trans (hKV.1.mono (by omega))
      have kc := cellOne kV
      have ⟨hC', hKV', kV', hiL', hL', hw0V'⟩ := hyd6 hC hKV kV hiL hL hw0V
      clear hw0V hL hiL kV hKV hC
      go_wp2
      refine leaves_marks w.heap.size [{ target := .collected D, args := #[] }] _ ⟨⟨D, rfl, by omega, hK, by simp⟩, trivial⟩ fun w9 hb hkeep => ?_
      exact ⟨_, results_tmp2 rfl _ _ _, _, by rw [hE0'.out]; rfl, hw0V'.out.trans hb, by rw [hv0'.out, ← hL'.out]; exact ints_keep hiL'.out hkeep hb.size⟩
     case stop =>
      intro D c pre V hD hS hI hK
      exact hI.elim
end Go.Proofs.YtphdalgaemefoaaGreat
namespace Go.Proofs.YtphdalgaemefoaaGreat
set_option maxRecDepth 100000
set_option maxHeartbeats 1000000
open Go.RowKit Go.Shelf
set_option linter.unusedVariables false
set_option linter.unusedSimpArgs false
def MPred.intsV (L : List Int) : MPred := ⟨fun v W => Ints W v L, fun _ _ _ h hp => hp.below h⟩
theorem riseB_drop {n last : Int} {l : List Int} {k : Nat} (h : k < l.length) : riseB n last (l.drop k) = (decide (last < l[k]) && (decide (l[k] < n) && riseB n l[k] (l.drop (k + 1)))) := by rw [List.drop_eq_getElem_cons h]; rfl
theorem riseB_end {n last : Int} {l : List Int} : riseB n last (l.drop l.length) = true := by rw [List.drop_length]; rfl
theorem rise_most {n : Int} {l : List Int} (h : riseB n (-1) l = true) (hn : n ≤ 60) : l.length ≤ 60 := by
 rcases riseB_length (Int.le_refl _) h with h1 | h1
 ·omega
 ·rw [h1]; simp
theorem ccE_bad {p : Pic} {l : List Int} (hB : picB p = true) (h : riseB p.rds.length (-1) l = false) : ccE p l = 8 := by unfold ccE; rw [hB, h]; rfl
theorem ccE_some {p : Pic} {l : List Int} (hB : picB p = true) (h : riseB p.rds.length (-1) l = true) (hs : someP p l = true) : ccE p l = 8 := by unfold ccE; rw [hB, h, hs]; rfl
theorem ccE_less {p : Pic} {l : List Int} {k : Nat} (hB : picB p = true) (h : riseB p.rds.length (-1) l = true) (hs : someP p l = false) (hk : k < l.length) (hl : someP p (l.eraseIdx k) = false) : ccE p l = 8 := by
 unfold ccE
 rw [hB, h, hs]
 simp only [if_true, Bool.false_eq_true, if_false]
 rw [if_neg]
 intro h9
 rw [List.all_eq_true] at h9
 have := h9 k (List.mem_range.2 hk)
 rw [hl] at this
 cases this
theorem ccE_ok {p : Pic} {l : List Int} (hB : picB p = true) (h : riseB p.rds.length (-1) l = true) (hs : someP p l = false) (hl : ∀ k, k < l.length → someP p (l.eraseIdx k) = true) : ccE p l = 0 := by
 unfold ccE
 rw [hB, h, hs]
 simp only [if_true, Bool.false_eq_true, if_false]
 rw [if_pos]
 rw [List.all_eq_true]
 exact fun k hk => hl k (List.mem_range.1 hk)
end Go.Proofs.YtphdalgaemefoaaGreat
