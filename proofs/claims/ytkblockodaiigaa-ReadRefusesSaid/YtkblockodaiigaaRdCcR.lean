/- The reference's Conflict. The reference's CheckConflict. -/
import Derived.Test.YtkblockodaiigaaRdSome
import Derived.Test.YtkblockodaiigaaRdConf
import Derived.Test.YtkblockodaiigaaRdWoR
import Derived.Test.YtkblockodaiigaaRdCheckR
import Derived.BigQuiet
namespace Go.Proofs.Ytkblockodaiigaa
set_option maxRecDepth 100000
set_option maxHeartbeats 1000000
open Go.RowKit Go.Shelf
set_option linter.unusedVariables false
set_option linter.unusedSimpArgs false
theorem woL_take (l : List Int) (k : Nat) : ∀ n, n ≤ l.length → woL l (k : Int) n = (l.take n).eraseIdx k := by
 intro n
 induction n with
 | zero => intro _; rfl
 | succ n ih =>
  intro h
  have hn : n < l.length := h
  have hg : l.getD n 0 = l[n] := by simp [List.getD_eq_getElem?_getD, List.getElem?_eq_getElem hn]
  have hl : (l.take n).length = n := by rw [List.length_take]; omega
  rw [List.take_succ_eq_append_getElem hn]
  by_cases e : n = k
  ·subst e
   rw [woL_no rfl, ih (by omega), List.eraseIdx_of_length_le (by omega), List.eraseIdx_append_of_length_le (by omega)]
   simp [hl]
  ·rw [woL_yes (by omega), ih (by omega), hg]
   by_cases q : n < k
   ·rw [List.eraseIdx_of_length_le (by omega), List.eraseIdx_of_length_le (by simp; omega)]
   ·rw [List.eraseIdx_append_of_lt_length (by omega)]
theorem woL_all (l : List Int) (k : Nat) : woL l (k : Int) l.length = l.eraseIdx k := by rw [woL_take l k _ (Nat.le_refl _), List.take_length]
theorem pf_r9_withoutE (v : Value) (l : List Int) (k : Nat) (w : World) (hv : Ints w v l) (hk : k < l.length) (hn : l.length ≤ 1000) : Calls Try.prog 55 #[v, .int .i64 (k : Int)] w fun e w' => ∃ v', e = .returned v' ∧ Below w.heap.size w w' ∧ w'.ownsRow w.heap.size 3 1 v' (l.eraseIdx k).length ((l.eraseIdx k).map vint) := by
 have h := pf_r9_without v l (k : Int) w hv hn
 rw [woL_all] at h
 exact h
theorem pf_r9_Conflict (v : Value) (p : Pic) (w : World) (hp : IsPic w v p) (hf : p.Fit) (hst : p.steps ≤ 24) :
  Calls Try.prog 20 #[v] w fun e w' => ∃ v', e = .returned (.tuple #[v', .int .i64 (confE p)]) ∧ Below w.heap.size w w' ∧ Ints w' v' (confL p) := by
 have hp9 := hp
 obtain ⟨vh, vr, rfl, hh, hr⟩ := hp
 obtain ⟨HA, hc, rfl, hhl⟩ := hh.slice
 obtain ⟨RA, rc, rfl, hrl⟩ := hr.slice
 unfold maxLen at hhl hrl
 obtain ⟨W1, hW1, hb1, k1⟩ := newb w (.cells #[.slice HA p.hs.length hc, .int .i64 p.tl, .int .i64 p.th, .int .i64 p.al, .int .i64 p.ah, .slice RA p.rds.length rc] 25)
 obtain ⟨c0, c1, c2, c3, c4, c5⟩ := pc6 k1
 have kck := pf_r9_Check _ p W1 (hp9.le hb1) hf
 obtain ⟨E, hE⟩ : ∃ E, picE p = E := ⟨_, rfl⟩
 rw [hE] at kck
 have hEB : E = if picB p then 0 else 90 := by rw [← hE]; rfl
 have ⟨hp9', hh', hr', hf', hb1', k1', kck', hE'⟩ := hyd8 hp9 hh hr hf hb1 k1 kck hE
 have hEB' := hyd1 hEB
 clear hEB hE kck k1 hb1 hf hr hh hp9
 go_enter Try.func20, Try.ntmps20
 go_wp2_with (fail)
 clear hW1
 go_at_call 34
 refine kck'.out.mono ?_
 rintro e W2 ⟨rfl, hb2⟩
 have hbw2 := bel_set hb1'.out hb2
 have k12 := blk hb2 k1'.out
 clear c0 c1 c2 c3 c4 c5
 obtain ⟨c0, c1, c2, c3, c4, c5⟩ := pc6 k12
 cases hB : picB p with
 | false =>
  have hE9 : E = 90 := by rw [hEB'.out, hB]; rfl
  have hres : confE p = 90 := by unfold confE; rw [hB]; rfl
  have hv : confL p = [] := by unfold confL; rw [hres]; rfl
  subst hE9
  have ⟨hb2', hbw2', k12', hB', hres', hv'⟩ := hyd6 hb2 hbw2 k12 hB hres hv
  clear hv hres hB k12 hbw2 hb2
  go_wp2
  exact bodyPost_ret (v := .tuple #[.slice none 0 0, .int .i64 90]) (by simp [results, Try.results20, go_sem]) rfl ⟨_, by rw [hres'.out], hbw2'.out, by rw [hv'.out]; exact Arr.nil _ _⟩
 | true =>
  have hE9 : E = 0 := by rw [hEB'.out, hB]; rfl
  subst hE9
  have hok := picB_iff.1 hB
  have hreads := hok.reads
  have hokM := hok.toM
  obtain ⟨N, hN⟩ : ∃ N, p.rds.length = N := ⟨_, rfl⟩
  have hN60 : 1 ≤ N ∧ N ≤ 60 := by omega
  have kind := pf_r9_indices N W2 (by omega)
  rw [← hN] at kind
  have ⟨hb2', hbw2', k12', hB', hok', hokM', hN', kind'⟩ := hyd8 hb2 hbw2 k12 hB hok hokM hN kind
  clear kind hN hokM hok hB k12 hbw2 hb2
  go_wp2_with (fail)
  go_at_call 53
  refine kind'.out.mono ?_
  rintro e W3 ⟨v3, rfl, hb3, ho3⟩
  have hi3 : Ints W3 v3 (idxL p.rds.length) := Arr.of_own ho3
  rw [hN'.out] at hi3
  have hiN := idxL_length N
  obtain ⟨A3, q3, e3, -⟩ := id hi3
  rw [hiN] at e3
  subst e3
  have hbw3 := bel_set hbw2'.out hb3
  have k13 := blk hb3 k12'.out
  clear c0 c1 c2 c3 c4 c5
  obtain ⟨c0, c1, c2, c3, c4, c5⟩ := pc6 k13
  have ksm := pf_r9_some _ _ p (idxL N) W3 (hp9'.out.le hbw3) hokM'.out hst hi3 (fun i hi => by rw [hN'.out]; exact idxL_mem hi) (by omega)
  obtain ⟨SB, hSB⟩ : ∃ b, someP p (idxL N) = b := ⟨_, rfl⟩
  rw [hSB] at ksm
  cases SB with
  | true =>
   have hE6 : confE p = 6 := by unfold confE; rw [hB'.out, hN'.out, hSB]; rfl
   have hv6 : confL p = [] := by unfold confL; rw [hE6]; rfl
   have ⟨hb3', ho3', hi3', hbw3', k13', ksm', hSB', hE6'⟩ := hyd8 hb3 ho3 hi3 hbw3 k13 ksm hSB hE6
   have ⟨hv6', hiN'⟩ := hyd2 hv6 hiN
   clear hiN hv6 hE6 hSB ksm k13 hbw3 hi3 ho3 hb3
   go_wp2_with (fail)
   go_at_call 54
   refine ksm'.out.mono ?_
   rintro e W4 ⟨rfl, hb4⟩
   have hbw4 := bel_set hbw3'.out hb4
   have ⟨hb4', hbw4'⟩ := hyd2 hb4 hbw4
   clear hbw4 hb4
   go_wp2
   exact bodyPost_ret (v := .tuple #[.slice none 0 0, .int .i64 6]) (by simp [results, Try.results20, go_sem]) rfl ⟨_, by rw [hE6'.out], hbw4'.out, by rw [hv6'.out]; exact Arr.nil _ _⟩
  | false =>
   have hE0 : confE p = 0 := by unfold confE; rw [hB'.out, hN'.out, hSB]; rfl
   have hv0 : confL p = confGo p N (idxL N) := by unfold confL; rw [hE0, hN'.out]; rfl
   have hst0 : CfS p N 0 (idxL N) := by have h := CfS.start (p := p) (by omega); rw [hN'.out] at h; exact h
   have ⟨hb3', ho3', hbw3', k13', ksm', hSB', hE0', hv0'⟩ := hyd8 hb3 ho3 hbw3 k13 ksm hSB hE0 hv0
   have hst0' := hyd1 hst0
   clear hst0 hv0 hE0 hSB ksm k13 hbw3 ho3 hb3
   go_wp2_with (fail)
   go_at_call 54
   refine ksm'.out.mono ?_
   rintro e W4 ⟨rfl, hb4⟩
   have hbw4 := bel_set hbw3'.out hb4
   have k14 := blk hb4 k13'.out
   have hi4 := hi3.below hb4
   have hb44 : Below W4.heap.size W4 W4 := Below.refl _ _
   clear c0 c1 c2 c3 c4 c5
   have ⟨hb4', hbw4', k14', hi3', hi4', hb44', hiN'⟩ := hyd7 hb4 hbw4 k14 hi3 hi4 hb44 hiN
   clear hiN hb44 hi4 hi3 k14 hbw4 hb4
   go_wp2_with (fail)
   go_loopw [6, 5] (fun ax lx wr => ∃ (k : Nat) (L : List Int) (A : Option Addr) (c : Nat), k ≤ N ∧ ax = .int .i64 ((N : Int) - 1 - (k : Int)) ∧ lx = .slice A L.length c ∧ Hid (CfS p N k L) ∧ Hid (Below W4.heap.size W4 wr) ∧ Hid (Ints wr (.slice A L.length c) L)) (fun ax _ _ => (intOf ax + 1).toNat)
   case atStart => exact ⟨0, idxL N, A3, q3, Nat.zero_le _, by go_num, by rw [hiN'.out], hst0', hb44', Lib.hid (by rw [hiN'.out]; exact hi4'.out)⟩
   case round =>
    obtain ⟨k, L, A, cA, hk, rfl, rfl, hC, hbr, hiL⟩ := hrel
    have hwr := bel_set hbw4'.out hbr.out
    have kp := blk hbr.out k14'.out
    obtain ⟨c0, c1, c2, c3, c4, c5⟩ := pc6 kp
    by_cases hlt : k < N
    ·obtain ⟨m, hm⟩ : ∃ m : Nat, N = k + m + 1 := ⟨N - k - 1, by omega⟩
     have hmi : (N : Int) - 1 - (k : Int) = (m : Int) := by omega
     rw [hmi]
     have hml : m < L.length := by have := hC.out.len; omega
     have hmost := hC.out.most
     have hstep := hC.out.step (m := m) (by omega)
     obtain ⟨hem, hel⟩ := hC.out.erase (m := m)
     have kdr := pf_r9_withoutE _ L m wr hiL.out hml (by omega)
     have hm0 : (0 : Int) ≤ (m : Int) := by omega
     have ⟨hwr', kp', hstep', hem', hel', kdr', hm', hmi'⟩ := hyd8 hwr kp hstep hem hel kdr hm hmi
     clear hmi hm kdr hel hem hstep kp hwr
     go_wp2_with (fail)
     go_at_call 55
     refine kdr'.out.mono ?_
     rintro e W5 ⟨v5, rfl, hb5, ho5⟩
     obtain ⟨A5, q5, rfl⟩ := slice_formR ho5
     have hi5 : Ints W5 (.slice A5 (L.eraseIdx m).length q5) (L.eraseIdx m) := Arr.of_own ho5
     have hw5 := bel_set hwr'.out hb5
     have k15 := blk hb5 kp'.out
     clear c0 c1 c2 c3 c4 c5
     obtain ⟨c0, c1, c2, c3, c4, c5⟩ := pc6 k15
     have ksm9 := pf_r9_some _ _ p (L.eraseIdx m) W5 (hp9'.out.le hw5) hokM'.out hst hi5 hem'.out hel'.out
     have hst9 := hstep'.out
     cases hS9 : someP p (L.eraseIdx m) with
     | true =>
      rw [hS9] at ksm9
      rw [hS9, if_pos rfl] at hst9
      have ⟨hb5', ho5', hi5', hw5', k15', ksm9', hst9', hS9'⟩ := hyd8 hb5 ho5 hi5 hw5 k15 ksm9 hst9 hS9
      clear hS9 hst9 ksm9 k15 hw5 hi5 ho5 hb5
      go_wp2_with (fail)
      go_at_call 54
      refine ksm9'.out.mono ?_
      rintro e W6 ⟨rfl, hb6⟩
      have hb56 := bel_set hb5'.out hb6
      have hb46 := bel_set hbr.out hb56
      have hi6 := hiL.out.below hb56
      have ⟨hb6', hb56', hb46', hi6'⟩ := hyd4 hb6 hb56 hb46 hi6
      clear hi6 hb46 hb56 hb6
      go_wp2
      go_roundw
      case rel => exact ⟨k + 1, L, A, cA, by omega, by have := hmi'.out; go_num, rfl, hst9', hb46', hi6'⟩
      case measure => simp [intOf]
     | false =>
      rw [hS9] at ksm9
      rw [hS9, if_neg (by decide)] at hst9
      have ⟨hb5', ho5', hi5', hw5', k15', ksm9', hst9', hS9'⟩ := hyd8 hb5 ho5 hi5 hw5 k15 ksm9 hst9 hS9
      clear hS9 hst9 ksm9 k15 hw5 hi5 ho5 hb5
      go_wp2_with (fail)
      go_at_call 54
      refine ksm9'.out.mono ?_
      rintro e W6 ⟨rfl, hb6⟩
      have hb56 := bel_set hb5'.out hb6
      have hb46 := bel_set hbr.out hb56
      have hi6 := hi5'.out.below hb6
      have ⟨hb6', hb56', hb46', hi6'⟩ := hyd4 hb6 hb56 hb46 hi6
      clear hi6 hb46 hb56 hb6
      go_wp2
      go_roundw
      case rel => exact ⟨k + 1, L.eraseIdx m, A5, q5, by omega, by have := hmi'.out; go_num, rfl, hst9', hb46', hi6'⟩
      case measure => simp [intOf]
    ·obtain rfl : k = N := by omega
     have hmi : (k : Int) - 1 - (k : Int) = -1 := by omega
     rw [hmi]
     have hL := hC.out.fin
     have ⟨hwr', kp', hL'⟩ := hyd3 hwr kp hL
     clear hL kp hwr
     go_wp2
     exact bodyPost_ret (v := .tuple #[.slice A L.length cA, .int .i64 0]) (by simp [results, Try.results20, go_sem]) rfl ⟨_, by rw [hE0'.out], hwr'.out, by rw [hv0'.out, ← hL'.out]; exact hiL.out⟩
end Go.Proofs.Ytkblockodaiigaa
namespace Go.Proofs.Ytkblockodaiigaa
set_option maxRecDepth 100000
set_option maxHeartbeats 1000000
open Go.RowKit Go.Shelf
set_option linter.unusedVariables false
set_option linter.unusedSimpArgs false
def lastI (l : List Int) : Nat → Int
 | 0 => -1
 | k + 1 => l.getD k 0
theorem lastI_succ {l : List Int} {k : Nat} (h : k < l.length) : lastI l (k + 1) = l[k] := by show l.getD k 0 = _; simp [List.getD_eq_getElem?_getD, List.getElem?_eq_getElem h]
theorem pf_r9_CheckConflict (v vl : Value) (p : Pic) (l : List Int) (w : World) (hp : IsPic w v p) (hf : p.Fit) (hst : p.steps ≤ 24) (hvl : Ints w vl l) (h70 : l.length ≤ 70) (hfl : ∀ i ∈ l, fit64 i) :
  Calls Try.prog 22 #[v, vl] w fun e w' => e = .returned (.int .i64 (ccE p l)) ∧ Below w.heap.size w w' := by
 have hp9 := hp
 obtain ⟨vh, vr, rfl, hh, hr⟩ := hp
 obtain ⟨HA, hc, rfl, hhl⟩ := hh.slice
 obtain ⟨RA, rc, rfl, hrl⟩ := hr.slice
 unfold maxLen at hhl hrl
 obtain ⟨LA, lc, rfl, hlc, hlm, -, hlr⟩ := id hvl
 unfold maxLen at hlm
 clear hlr
 obtain ⟨W1, hW1, hb1, k1⟩ := newb w (.cells #[.slice HA p.hs.length hc, .int .i64 p.tl, .int .i64 p.th, .int .i64 p.al, .int .i64 p.ah, .slice RA p.rds.length rc] 25)
 obtain ⟨c0, c1, c2, c3, c4, c5⟩ := pc6 k1
 have kck := pf_r9_Check _ p W1 (hp9.le hb1) hf
 obtain ⟨E, hE⟩ : ∃ E, picE p = E := ⟨_, rfl⟩
 rw [hE] at kck
 have hEB : E = if picB p then 0 else 90 := by rw [← hE]; rfl
 have ⟨hp9', hh', hr', hf', hvl', hfl', hb1', k1'⟩ := hyd8 hp9 hh hr hf hvl hfl hb1 k1
 have ⟨kck', hE', hEB'⟩ := hyd3 kck hE hEB
 clear hEB hE kck k1 hb1 hfl hvl hf hr hh hp9
 go_enter Try.func22, Try.ntmps22
 go_wp2_with (fail)
 clear hW1
 go_at_call 34
 refine kck'.out.mono ?_
 rintro e W2 ⟨rfl, hb2⟩
 have hbw2 := bel_set hb1'.out hb2
 have k12 := blk hb2 k1'.out
 clear c0 c1 c2 c3 c4 c5
 obtain ⟨c0, c1, c2, c3, c4, c5⟩ := pc6 k12
 cases hB : picB p with
 | false =>
  have hE9 : E = 90 := by rw [hEB'.out, hB]; rfl
  have hres : ccE p l = 90 := by unfold ccE; rw [hB]; rfl
  subst hE9
  have ⟨hb2', hbw2', k12', hB', hres'⟩ := hyd5 hb2 hbw2 k12 hB hres
  clear hres hB k12 hbw2 hb2
  go_wp2
  go_ret
  exact ⟨by rw [hres'.out]; rfl, hbw2'.out⟩
 | true =>
  have hE9 : E = 0 := by rw [hEB'.out, hB]; rfl
  subst hE9
  have hok := picB_iff.1 hB
  have hreads := hok.reads
  have hokM := hok.toM
  have hrise0 : riseB p.rds.length (-1) l = riseB p.rds.length (lastI l 0) (l.drop 0) := rfl
  have hb22 : Below W2.heap.size W2 W2 := Below.refl _ _
  have ⟨hb2', hbw2', k12', hB', hok', hokM', hrise0', hb22'⟩ := hyd8 hb2 hbw2 k12 hB hok hokM hrise0 hb22
  clear hb22 hrise0 hokM hok hB k12 hbw2 hb2
  go_wp2_with (fail)
  clear c0 c1 c2 c3 c4 c5
  go_loopw [6] (fun kx wr => ∃ k : Nat, k ≤ l.length ∧ kx = .int .i64 (k : Int) ∧ Hid (-1 ≤ lastI l k ∧ riseB p.rds.length (-1) l = riseB p.rds.length (lastI l k) (l.drop k)) ∧ Hid (Below W2.heap.size W2 wr)) (fun kx _ => l.length - (intOf kx).toNat)
  case atStart => exact ⟨0, Nat.zero_le _, rfl, Lib.hid ⟨Int.le_refl _, hrise0'.out⟩, hb22'⟩
  case round =>
   obtain ⟨k, hk, rfl, hrs, hbr⟩ := hrel
   have hww := bel_set hbw2'.out hbr.out
   have kp := blk hbr.out k12'.out
   obtain ⟨c0, c1, c2, c3, c4, c5⟩ := pc6 kp
   by_cases hlt : k < l.length
   ·obtain ⟨b, off, lc2, heq, hbl, -, -, hcell⟩ := Ints.cells (hvl'.out.below hww) (by omega)
    injection heq with e1 e2 e3
    subst e1 e3
    clear e2
    have hci := hcell k hlt
    have hfi := hfl'.out _ (List.getElem_mem hlt)
    unfold fit64 at hfi
    have hdr := riseB_drop (n := p.rds.length) (last := lastI l k) hlt
    have hli := lastI_succ hlt
    obtain ⟨i, hi⟩ : ∃ i, l[k] = i := ⟨_, rfl⟩
    rw [hi] at hci hfi hdr hli
    have j1 : (k : Int) < (l.length : Int) := by omega
    have j2 : (0 : Int) ≤ (k : Int) := by omega
    have hrl9 : (p.rds.length : Int) ≤ 60 := by omega
    have hw9 := fun W => pf_within_barleycornref09 i 0 ((p.rds.length : Int) - 1) W
    obtain ⟨WB, hWB⟩ : ∃ b, within i 0 ((p.rds.length : Int) - 1) = b := ⟨_, rfl⟩
    rw [hWB] at hw9
    cases WB with
    | false =>
     have hbad : ccE p l = 8 := ccE_bad hB'.out (by
      rw [hrs.out.2, hdr]
      have h1 := hrs.out.1
      rw [← Bool.not_eq_true, within_iff] at hWB
      by_cases q : lastI l k < i
      ·rw [decide_eq_false (show ¬ i < (p.rds.length : Int) by omega)]; simp
      ·rw [decide_eq_false q]; rfl)
     have ⟨hrs', hbr', hww', hcell', hi', hdr', hbad', hli'⟩ := hyd8 hrs hbr hww hcell hi hdr hbad hli
     have ⟨hw9', hWB'⟩ := hyd2 hw9 hWB
     clear hWB hw9 hli hbad hdr hi hcell hww hbr hrs
     go_wp2_with (fail)
     go_quiet ((go_at_call 37; with_reducible exact quiet_same' (hw9'.out _)))
     have hbd : Below w.heap.size w (wr.drewN nq) := below_drewN' hww'.out nq
     have hbd' := hyd1 hbd
     clear hbd
     go_wp2
     go_ret
     exact ⟨by rw [hbad'.out]; rfl, hbd'.out⟩
    | true =>
     rw [within_iff] at hWB
     cases k with
     | zero =>
      rw [Nat.add_zero] at hci
      have hn9 : -1 ≤ lastI l 1 ∧ riseB p.rds.length (-1) l = riseB p.rds.length (lastI l 1) (l.drop 1) := by
       rw [hli]
       refine ⟨by omega, ?_⟩
       rw [hrs.out.2, hdr, decide_eq_true (show lastI l 0 < i by show -1 < i; omega), decide_eq_true (show i < (p.rds.length : Int) by omega)]
       rfl
      have ⟨hrs', hww', hcell', hi', hdr', hli', hw9', hn9'⟩ := hyd8 hrs hww hcell hi hdr hli hw9 hn9
      clear hn9 hw9 hli hdr hi hcell hww hrs
      go_wp2_with (fail)
      go_quiet ((go_at_call 37; with_reducible exact quiet_same' (hw9'.out _)))
      have hbd : Below W2.heap.size W2 (wr.drewN nq) := below_drewN' hbr.out nq
      have hbd' := hyd1 hbd
      clear hbd
      go_wp2
      go_roundw
      case rel => exact ⟨1, by omega, by go_num, hn9', hbd'⟩
      case measure => simp [intOf]; omega
     | succ k =>
      have hcm := hcell k (by omega)
      obtain ⟨y, hy⟩ : ∃ y, l[k]'(by omega) = y := ⟨_, rfl⟩
      rw [hy] at hcm
      have hla : lastI l (k + 1) = y := by rw [lastI_succ (by omega), hy]
      rw [hla] at hdr
      have hk9 : k < l.length := by omega
      have hkz : 0 < k + 1 := Nat.succ_pos k
      have hpc : ((k + 1 : Nat) : Int) - 1 = (k : Int) := by omega
      by_cases hle : i ≤ y
      ·have hbad : ccE p l = 8 := ccE_bad hB'.out (by rw [hrs.out.2, hla, hdr, decide_eq_false (by omega)]; rfl)
       have ⟨hrs', hbr', hww', hcell', hi', hdr', hbad', hli'⟩ := hyd8 hrs hbr hww hcell hi hdr hbad hli
       have ⟨hw9', hWB', hla', hy'⟩ := hyd4 hw9 hWB hla hy
       clear hy hla hWB hw9 hli hbad hdr hi hcell hww hbr hrs
       go_wp2_with (fail)
       go_quiet ((go_at_call 37; with_reducible exact quiet_same' (hw9'.out _)))
       have hbd : Below w.heap.size w (wr.drewN nq) := below_drewN' hww'.out nq
       have hbd' := hyd1 hbd
       clear hbd
       go_wp2
       go_ret
       exact ⟨by rw [hbad'.out]; rfl, hbd'.out⟩
      ·have hlt9 : y < i := by omega
       have hn9 : -1 ≤ lastI l (k + 1 + 1) ∧ riseB p.rds.length (-1) l = riseB p.rds.length (lastI l (k + 1 + 1)) (l.drop (k + 1 + 1)) := by
        rw [hli]
        refine ⟨by omega, ?_⟩
        rw [hrs.out.2, hla, hdr, decide_eq_true hlt9, decide_eq_true (show i < (p.rds.length : Int) by omega)]
        rfl
       have ⟨hrs', hww', hcell', hi', hdr', hli', hw9', hn9'⟩ := hyd8 hrs hww hcell hi hdr hli hw9 hn9
       have ⟨hWB', hla', hy'⟩ := hyd3 hWB hla hy
       clear hy hla hWB hn9 hw9 hli hdr hi hcell hww hrs
       go_wp2_with (fail)
       go_quiet ((go_at_call 37; with_reducible exact quiet_same' (hw9'.out _)))
       have hbd : Below W2.heap.size W2 (wr.drewN nq) := below_drewN' hbr.out nq
       have hbd' := hyd1 hbd
       clear hbd
       go_wp2
       go_roundw
       case rel => exact ⟨k + 1 + 1, by omega, by go_num, hn9', hbd'⟩
       case measure => simp [intOf]; omega
   ·obtain rfl : k = l.length := by omega
    have hrise : riseB p.rds.length (-1) l = true := by rw [hrs.out.2]; exact riseB_end
    have hmem : ∀ i ∈ l, 0 ≤ i ∧ i < (p.rds.length : Int) := fun i hi => by have := riseB_mem hrise i hi; omega
    have hl60 := rise_most hrise (by omega)
    have ksm := pf_r9_some _ _ p l wr (hp9'.out.le hww) hokM'.out hst (hvl'.out.below hww) hmem hl60
    obtain ⟨SB, hSB⟩ : ∃ b, someP p l = b := ⟨_, rfl⟩
    rw [hSB] at ksm
    cases SB with
    | true =>
     have hbad := ccE_some hB'.out hrise hSB
     have ⟨hrs', hbr', hww', kp', hrise', hmem', ksm', hSB'⟩ := hyd8 hrs hbr hww kp hrise hmem ksm hSB
     have hbad' := hyd1 hbad
     clear hbad hSB ksm hmem hrise kp hww hbr hrs
     go_wp2_with (fail)
     go_at_call 54
     refine ksm'.out.mono ?_
     rintro e W3 ⟨rfl, hb3⟩
     have hbw3 := bel_set hww'.out hb3
     have ⟨hb3', hbw3'⟩ := hyd2 hb3 hbw3
     clear hbw3 hb3
     go_wp2
     go_ret
     exact ⟨by rw [hbad'.out]; rfl, hbw3'.out⟩
    | false =>
     have ⟨hrs', hbr', kp', hrise', hmem', ksm', hSB'⟩ := hyd7 hrs hbr kp hrise hmem ksm hSB
     clear hSB ksm hmem hrise kp hbr hrs
     go_wp2_with (fail)
     go_at_call 54
     refine ksm'.out.mono ?_
     rintro e W3 ⟨rfl, hb3⟩
     have hbw3 := bel_set hww hb3
     have k3 := blk hb3 kp'.out
     have hb33 : Below W3.heap.size W3 W3 := Below.refl _ _
     have hall0 : ∀ j, j < 0 → someP p (l.eraseIdx j) = true := fun j hj => absurd hj (Nat.not_lt_zero j)
     clear c0 c1 c2 c3 c4 c5
     have ⟨hww', hb3', hbw3', k3', hb33', hall0'⟩ := hyd6 hww hb3 hbw3 k3 hb33 hall0
     clear hall0 hb33 k3 hbw3 hb3 hww
     go_wp2_with (fail)
     go_loopw [7] (fun kx wv => ∃ k : Nat, k ≤ l.length ∧ kx = .int .i64 (k : Int) ∧ Hid (∀ j, j < k → someP p (l.eraseIdx j) = true) ∧ Hid (Below W3.heap.size W3 wv)) (fun kx _ => l.length - (intOf kx).toNat)
     case atStart => exact ⟨0, Nat.zero_le _, rfl, hall0', hb33'⟩
     case round =>
      rename World => wv
      obtain ⟨k, hk, rfl, hall, hbv⟩ := hrel
      have hwv := bel_set hbw3'.out hbv.out
      by_cases hlt : k < l.length
      ·have kpv := blk hbv.out k3'.out
       have hem : ∀ i ∈ l.eraseIdx k, 0 ≤ i ∧ i < (p.rds.length : Int) := fun i hi => hmem'.out i (List.mem_of_mem_eraseIdx hi)
       have hel : (l.eraseIdx k).length ≤ 60 := by rw [List.length_eraseIdx]; split <;> omega
       obtain ⟨b, hS⟩ : ∃ b, someP p (l.eraseIdx k) = b := ⟨_, rfl⟩
       have j1 : (k : Int) < (l.length : Int) := by omega
       have ⟨hall', hwv', kpv', hem', hel', hS'⟩ := hyd6 hall hwv kpv hem hel hS
       clear hS hel hem kpv hwv hall
       go_wp2_with (fail)
--@ARM14
       refine wp_region_monoT (R := leRel) 5 [some 54, some 55, some 56, some 57, some 58, some 59] [[], [], [], [1, 2], [0, 3], [4]]
        [.eq (.agg #[.slice HA p.hs.length hc, .int .i64 p.tl, .int .i64 p.th, .int .i64 p.al, .int .i64 p.ah, .slice RA p.rds.length rc]), .eq (.slice LA l.length lc), .eq (.int .i64 (k : Int)), MPred.intsV (l.eraseIdx k), .eq (.bool b)] (fun _ _ => False) (by kernel_rfl) (by kernel_rfl) (by kernel_rfl) (by kernel_rfl) (by kernel_rfl) ?_ (fun _ _ _ _ h => h.elim) ?_
       ·simp only [List.take_succ_cons, List.take_zero]
        refine sMc rfl ?_ (sMc rfl ?_ (sMc rfl ?_ (sMc rfl ?_ (sMc rfl ?_ (stepsG_nil)))))
        ·intro xv W hR hf Q hK hP
         obtain ⟨c0, c1, c2, c3, c4, c5⟩ := pc6 (blk hR kpv'.out)
         simp only [fA] at hK ⊢
         go_wp2
         exact hK _ _ lrR rfl
        ·intro xv W hR hf Q hK hP
         simp only [fA] at hK ⊢
         go_wp2
         exact hK _ _ lrR rfl
        ·intro xv W hR hf Q hK hP
         simp only [fA] at hK ⊢
         go_wp2
         exact hK _ _ lrR rfl
        ·intro xv W hR hf Q hK hP
         obtain ⟨e0, e1, -⟩ := hf
         change _ = _ at e0 e1
         simp only [fA, e0, e1] at hK ⊢
         have kd := pf_r9_withoutE _ l k W (hvl'.out.below (bel_set hwv'.out hR)) hlt (by omega)
         have kd' := hyd1 kd
         clear kd
         go_wp2_with (fail)
         go_at_call 55
         refine kd'.out.mono ?_
         rintro e w' ⟨v8, rfl, y1, y2⟩
         go_wp2
         exact hK _ _ y1 (Arr.of_own y2)
        ·intro xv W hR hf Q hK hP
         obtain ⟨e0, e1, -⟩ := hf
         change _ = _ at e0
         replace e1 : Ints W (xv 3) (l.eraseIdx k) := e1
         obtain ⟨A8, c8, e8, -⟩ := id e1
         rw [e8] at e1
         simp only [fA, e0, e8] at hK ⊢
         have kq := pf_r9_some _ _ p (l.eraseIdx k) W (hp9'.out.le (bel_set hwv'.out hR)) hokM'.out hst e1 hem'.out hel'.out
         rw [hS'.out] at kq
         have ⟨e1', kq'⟩ := hyd2 e1 kq
         clear kq e1
         go_wp2_with (fail)
         go_at_call 54
         refine kq'.out.mono ?_
         rintro e w' ⟨rfl, y1⟩
         go_wp2
         exact hK _ _ y1 rfl
       ·intro xv W5 hR hf Q' hQ1 _
        have e4 : xv 4 = .bool b := hf 4 (by decide)
        obtain ⟨A8, c8, e3, -⟩ : Ints W5 (xv 3) (l.eraseIdx k) := hf 3 (by decide)
        simp only [List.drop_succ_cons, List.drop_zero]
        rw [show List.range 5 = [0, 1, 2, 3, 4] from rfl]
        simp only [fA, e4, e3]
        clear e4 e3 hf
        have hb35 := hbv.out.trans (hR.mono hbv.out.size)
        have hw5 := bel_set hwv'.out hR
        cases b with
        | true =>
         have hall9 : ∀ j, j < k + 1 → someP p (l.eraseIdx j) = true := fun j hj => by
          by_cases e : j = k
          ·rw [e]; exact hS'.out
          ·exact hall'.out.out j (by omega)
         have ⟨hR', hb35', hw5', hall9'⟩ := hyd4 hR hb35 hw5 hall9
         clear hall9 hw5 hb35 hR
         go_wp2
         refine hQ1 _ _ ?_
         clear hQ1
         go_wp2
         go_roundw
         case rel => exact ⟨k + 1, by omega, by go_num, hall9', hb35'⟩
         case measure => simp [intOf]; omega
        | false =>
         have hbad := ccE_less hB'.out hrise'.out hSB'.out hlt hS'.out
         have ⟨hR', hb35', hw5', hbad'⟩ := hyd4 hR hb35 hw5 hbad
         clear hbad hw5 hb35 hR
         go_wp2
         refine hQ1 _ _ ?_
         clear hQ1
         go_wp2
         go_ret
         exact ⟨by rw [hbad'.out]; rfl, hw5'.out⟩
--@END14
      ·obtain rfl : k = l.length := by omega
       have hres := ccE_ok hB'.out hrise'.out hSB'.out hall.out
       have ⟨hall', hwv', hres'⟩ := hyd3 hall hwv hres
       clear hres hwv hall
       go_wp2
       go_ret
       exact ⟨by rw [hres'.out]; rfl, hwv'.out⟩
end Go.Proofs.Ytkblockodaiigaa
