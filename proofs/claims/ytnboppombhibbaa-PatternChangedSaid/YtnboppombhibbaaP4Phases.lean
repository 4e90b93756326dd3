/- pattern's iterator over phases. pattern.Phases. -/
import Derived.Test.YtnboppombhibbaaP4Cut
import Derived.Test.YtnboppombhibbaaQTail
namespace Go.Proofs.Ytnboppombhibbaa
open Go.RowKit Go.Shelf
set_option linter.unusedVariables false
set_option linter.unusedSimpArgs false
attribute [local go_sem] Oper.semAt_some
theorem Kept.drewN (n₀ : Nat) (Bs : List Nat) (W : World) (n : Nat) : Kept n₀ Bs W (W.drewN n) := ⟨below_drewN' (Below.refl _ _) n, fun _ _ => rfl⟩
theorem grown_drewN (W : World) (n : Nat) (row : Option Nat) : W.grownBy (W.drewN n) row := ⟨rfl, rfl, rfl, Nat.le_refl _, fun _ _ _ => rfl⟩
def phAt (p : Prog) (a : Int) (n : Nat) (i : Fin n) : Array Value := #[.int .i64 (a + i.1), .int .i64 (phaseI p (a + i.1))]
set_option maxRecDepth 100000 in
set_option maxHeartbeats 2000000 in
theorem phases1_yields (p : Prog) (hp : BenchFacts p) (b : Nat) (a : Int) (n : Nat) (w0 w : World) (B1 B2 B3 n₀ : Nat) (hbench : IsBench w0 b p) (ha : -100000 ≤ a ∧ a ≤ 100000) (hn : n ≤ 100000) (h1 : B1 < w.heap.size) (h2 : B2 < w.heap.size) (h3 : B3 < w.heap.size)
    (hn₀ : n₀ ≤ w.heap.size) (h0 : w0.heap.size ≤ n₀) (hb : Below w0.heap.size w0 w) (c1 : w.cell? ⟨B1, 0, none⟩ = some (.int .i64 n)) (c2 : w.cell? ⟨B2, 0, none⟩ = some (.int .i64 a)) (c3 : w.cell? ⟨B3, 0, none⟩ = some (.pointer (some ⟨b, 0, none⟩))) :
    Yields Try.prog 90 #[.pointer (some ⟨B1, 0, none⟩), .pointer (some ⟨B2, 0, none⟩), .pointer (some ⟨B3, 0, none⟩)] n (phAt p a n) n₀ [B1, B2, B3] w := by
  intro l J Jx W hW hJa _ hY hJ0
  have c1' := (hW.cell (p := ⟨B1, 0, none⟩) h1).trans c1
  have c2' := (hW.cell (p := ⟨B2, 0, none⟩) h2).trans c2
  have c3' := (hW.cell (p := ⟨B3, 0, none⟩) h3).trans c3
  have hbW : Below w0.heap.size w0 W := hb.trans (hW.mono (Nat.le_trans h0 hn₀))
  have hJa' := Lib.hid hJa
  clear c1 c2 c3 hJa
  refine callsIn_of_wp Try.func90 rfl trivial ?_ rfl
  simp only [Try.ntmps90, List.size_toArray, List.length_cons, List.length_nil, Nat.reduceAdd, Nat.reduceSub, Array.replicate_succ, Array.replicate_zero, List.push_toArray, List.append_toArray, List.nil_append, List.cons_append]
  gi_wp2
  gi_loopw [7, 5] (fun i _ wr => ∃ k : Nat, k ≤ n ∧ i = .int .i64 k ∧ J ((List.finRange n).take k) wr ∧ Kept n₀ [B1, B2, B3] W wr)
    (fun i _ _ => n - (intOf i).toNat)
  case atStart => exact ⟨0, Nat.zero_le _, rfl, hJ0, Kept.refl _ _ _⟩
  case round =>
    obtain ⟨k, hk, rfl, hJs, hnx⟩ := hrel
    by_cases hlt : k < n
    · have d1 := (hnx.cell (B := B1) (i := 0) (by simp)).trans c1'
      have d2 := (hnx.cell (B := B2) (i := 0) (by simp)).trans c2'
      have d3 := (hnx.cell (B := B3) (i := 0) (by simp)).trans c3'
      have hbn := Lib.hid (hbench.below (hbW.trans (hnx.1.mono h0)))
      have i1 : IntKind.i64.wrap (a + (k : Int)) = a + k := IntWalk.i64_in _ (by omega)
      clear c1' c2' c3'
      gi_wp2
      refine wpF_region_quiet_tail lets_wide 9 (by kernel_rfl) (by kernel_rfl) (by kernel_rfl) ?_
      simp only [List.take_succ_cons, List.take_zero, List.drop_succ_cons, List.drop_zero]
      repeat (go_big_quiet_step (exact Calls.quiet_of (pf_phase b p _ _ (hbn.out.drewN _) hp (by omega) (by omega))))
      refine wpQuiet_nil ?_
      intro _ hw'
      obtain ⟨nq, hw''⟩ := hw'
      subst hw''
      obtain ⟨fn, tmps, assign, body, hy, hR⟩ := hY _ ⟨k, hlt⟩ (wr.drewN nq) (hJa'.out _ _ _ none hJs (grown_drewN _ _ _) (by simp)) (by simp; omega)
      dsimp only [phAt] at hy
      gi_wp2
      refine hR.mono ?_
      rintro e W3 (⟨rfl, hJ3, hk3⟩ | ⟨rfl, hJx3⟩)
      · gi_wp2
        go_roundw
        case rel => exact ⟨k + 1, by omega, by go_num, by rw [finRange_take_succ k hlt]; exact hJ3, (hnx.trans (Kept.drewN _ _ _ _)).trans hk3⟩
        case measure => simp [intOf]; omega
      · gi_wp2
        refine bodyPost_ret (results_none rfl _ _ _) rfl ?_
        exact ⟨⟨_, rfl⟩, .inr ⟨_, ⟨_, by rw [← finRange_take_succ k hlt]; exact List.take_append_drop _ _⟩, hJx3⟩⟩
    · obtain rfl : k = n := by omega
      gi_wp2
      go_end0
      exact ⟨⟨_, rfl⟩, .inl ⟨_, List.take_of_length_le (by simp), hJs⟩⟩
theorem pf_phases (b : Nat) (a n : Int) (w : World) :
    Calls Try.prog 54 #[.pointer (some ⟨b, 0, none⟩), .int .i64 a, .int .i64 n] w fun e w' =>
      e = .returned (.func (.func 90) #[] #[.pointer (some ⟨w.heap.size + 1 + 1, 0, none⟩), .pointer (some ⟨w.heap.size + 1, 0, none⟩), .pointer (some ⟨w.heap.size, 0, none⟩)]) ∧
      ((w.alloc (.cells #[.pointer (some ⟨b, 0, none⟩)] 84)).alloc (.cells #[.int .i64 a] 3)).alloc (.cells #[.int .i64 n] 3) = w' := by
  have hmf : ∀ (fn : Fn) (first cap : Array Value) (w : World), (Instr.makeFunc fn first cap).run Try.prog w = .ok (.func fn first cap) w := fun _ _ _ _ => rfl
  go_enter Try.func54, Try.ntmps54
  go_wp2
  go_ret
  exact ⟨rfl, rfl⟩
end Go.Proofs.Ytnboppombhibbaa
namespace Go.Proofs.Ytnboppombhibbaa
open Go.RowKit Go.Shelf
set_option linter.unusedVariables false
set_option linter.unusedSimpArgs false
attribute [local go_sem] Oper.semAt_some
theorem phases_fin (p : Prog) (a : Int) (n : Nat) : ((List.finRange n).map fun (i : Fin n) => phaseI p (a + i.1)) = phasesL p a n := by
  unfold phasesL
  rw [← finRange_val n, List.map_map]
  rfl
set_option maxRecDepth 100000 in
set_option maxHeartbeats 4000000 in
theorem pf_pat_Phases_ok (v : Value) (p : Prog) (a : Int) (n : Nat) (w : World) (hv : IsProg w v p) (hE : progE p = 0) (ha : within a (-5000) 5000 = true) (hn : within (n : Int) 0 200 = true) :
    Calls Try.prog 18 #[v, .int .i64 a, .int .i64 n] w fun e w' => ∃ v', e = .returned (.tuple #[v', .int .i64 0]) ∧ Below w.heap.size w w' ∧ w'.ownsRow w.heap.size 3 1 v' (phasesL p a n).length ((phasesL p a n).map vint) := by
  have hv0 := Lib.hid hv
  obtain ⟨v0, v1, v5, rfl, h0, h1, h5⟩ := hv
  have hp := benchFacts hE
  obtain ⟨a1, a2⟩ := within_iff.1 ha
  obtain ⟨n1, n2⟩ := within_iff.1 hn
  have h0' := Lib.hid h0
  have h1' := Lib.hid h1
  have h5' := Lib.hid h5
  have hE' := Lib.hid hE
  have ha' := Lib.hid ha
  have hn' := Lib.hid hn
  clear hn ha hE h5 h1 h0
  refine (callsIn_wide (n := 5)).1 ?_
  refine callsIn_of_wp_marks Try.func18 rfl trivial ?_ rfl
  simp only [Try.ntmps18, List.size_toArray, List.length_cons, List.length_nil, Nat.reduceAdd, Nat.reduceSub, Array.replicate_succ, Array.replicate_zero, List.push_toArray, List.append_toArray, List.nil_append, List.cons_append]
  gi_wp2_with (first | (refine ⟨trivial, ?_⟩; gi_at_call 51; refine (callsIn_wide.2 (pf_mounted _ p _ (hv0.out.below (alc1 _ _)) 0 hE'.out)).mono ?_; rintro e w' ⟨vb, rfl, hb1, -, hok⟩; obtain ⟨b, rfl, hbb, hbench⟩ := hok rfl; have hbench' := Lib.hid hbench; have hbox := (Box.start w _).next hb1; have hblt := hbench.lt; clear hb1 hok hbench hbb) | (refine ⟨trivial, ?_⟩; gi_at_call 53; refine (callsIn_wide.2 (pf_within_pattern _ _ _ _)).mono ?_; rintro e w' ⟨rfl, rfl⟩; first | rw [ha'.out] | rw [hn'.out]) | (refine ⟨trivial, ?_⟩; gi_at_call 54; refine (callsIn_wide.2 (pf_phases _ _ _ _)).mono ?_; rintro e w' ⟨rfl, rfl⟩))
  obtain ⟨W0, hW0, hsz, hBW, hL, hB3, hB2, hB1⟩ := alc4_facts w' (.cells #[.slice none 0 0] 22) (.cells #[.pointer (some ⟨b, 0, none⟩)] 84) (.cells #[.int .i64 a] 3) (.cells #[.int .i64 n] 3)
  rw [hW0]
  clear hW0
  have hyield := phases1_yields p hp b a n w' W0 (w'.heap.size + 1 + 1 + 1) (w'.heap.size + 1 + 1) (w'.heap.size + 1) w'.heap.size hbench'.out (by omega) (by omega) (by omega) (by omega) (by omega) (by omega) (Nat.le_refl _) hBW (cell0 hB1) (cell0 hB2) (cell0 hB3)
  refine wpIn_rangeFunc_ownF rfl (by omega) (gf := 90) (lb := #[.pointer (some ⟨w'.heap.size + 1 + 1 + 1, 0, none⟩), .pointer (some ⟨w'.heap.size + 1 + 1, 0, none⟩), .pointer (some ⟨w'.heap.size + 1, 0, none⟩)]) rfl trivial (enters_of Try.func90 (by kernel_rfl) rfl)
    hyield Kept.trans (Kept.put (by omega) (by simp; omega)) (Below.refl _ _) (fun _ => rfl)
    (fun pre W => Coll 22 3 W0 w'.heap.size (w'.heap.size + 4) w'.heap.size [w'.heap.size + 1 + 1 + 1, w'.heap.size + 1 + 1, w'.heap.size + 1] (pre.map fun (i : Fin n) => phaseI p (a + i.1)) W)
    (fun _ _ _ => False)
    (Coll.from _ (by omega) (by omega) (by simp; omega)) (fun _ _ _ _ _ hs _ _ => hs) (Coll.start hL)
    (fun x => { tmps := #[.agg #[v0, v1, .int .i64 p.start, .int .i64 p.throw, .int .i64 p.adv, v5], .int .i64 a, .int .i64 n, .pointer (some ⟨w.heap.size, 0, none⟩), undef, undef, .slice none 0 0, .int .i64 0, .pointer (some ⟨b, 0, none⟩), .int .i64 0, .pointer (some ⟨w'.heap.size, 0, none⟩), undef, .int .i64 (phaseI p (a + x.1)), .tuple #[.pointer (some ⟨b, 0, none⟩), .int .i64 0], .agg #[v0, v1, .int .i64 p.start, .int .i64 p.throw, .int .i64 p.adv, v5], .tuple #[.pointer (some ⟨b, 0, none⟩), .int .i64 0], .pointer (some ⟨b, 0, none⟩), .int .i64 0, .bool false, .int .i64 0, .bool false, undef, .bool false, .int .i64 a, .bool true, .bool false, .bool false, .int .i64 n, .bool true, .bool false, .bool false, .pointer (some ⟨b, 0, none⟩), .int .i64 a, .int .i64 n, .func (.func 90) #[] #[.pointer (some ⟨w'.heap.size + 1 + 1 + 1, 0, none⟩), .pointer (some ⟨w'.heap.size + 1 + 1, 0, none⟩), .pointer (some ⟨w'.heap.size + 1, 0, none⟩)], .int .i64 (a + x.1), .int .i64 (phaseI p (a + x.1)), undef, undef, undef, undef, undef], defers := [] }) ?assign ?body ?done ?stop
  case assign =>
    intro l x W K hK
    dsimp only [phAt]
    gi_wp2
    exact hK
  case body =>
    rintro l pre x W hcoll hlen
    obtain ⟨u, hu, ho⟩ := hcoll.own
    have es := cell0 hu
    have ef := frozen0 hu 0
    have hsz2 := hcoll.size
    have ho' := Lib.hid ho
    have hl1 : (pre.map fun (i : Fin n) => phaseI p (a + i.1)).length ≤ 200 := by simp; omega
    have hpre : ((pre ++ [x]).map fun (i : Fin n) => phaseI p (a + i.1)) = (pre.map fun (i : Fin n) => phaseI p (a + i.1)) ++ [phaseI p (a + x.1)] := by simp
    have hpre' := Lib.hid hpre
    clear hpre
    clear ho
    generalize (pre.map fun (i : Fin n) => phaseI p (a + i.1)) = L at hcoll ho' hl1 hpre'
    have hu' := Lib.hid hu
    have hL' := Lib.hid hL
    have hB1' := Lib.hid hB1
    have hB2' := Lib.hid hB2
    have hB3' := Lib.hid hB3
    have hyield' := Lib.hid hyield
    clear hyield hB3 hB2 hB1 hL hu
    gi_wp2_with (first | (gi_at_builtin; go_must (refine wpListIn_appI rfl _ _ 22 rfl (w'.heap.size + 4) 3 elemInt u L rfl (ho'.out.alloc _) _ [phaseI p (a + x.1)] rfl (one_newI _ _ _) (by simp; omega) (by simp; omega) ?_)))
    intro v2 w2 r1 r2 r3 _
    obtain ⟨g2, c2, rfl, -, -, -, -⟩ := own_form r1 (Nat.succ_pos _)
    have hst := hcoll.step (ys := L ++ [phaseI p (a + x.1)]) hu'.out ho'.out (by omega) (by omega) (Nat.le_refl _) (by simp; omega) (by simpa using r1) r2 r3
    have d1 : w2.heap[w'.heap.size]? = _ := (r2.block _ (by omega)).trans ((Below.heap_alloc _ _ _ (by omega)).trans hu'.out)
    have d2 := cell0 d1
    have d3 := frozen0 d1 0
    have hst' := Lib.hid hst
    have d1' := Lib.hid d1
    have r1' := Lib.hid r1
    have r2' := Lib.hid r2
    have r3' := Lib.hid r3
    clear r3 r2 r1 d1 hst
    gi_wp2
    exact ⟨hst'.out.1, hst'.out.2.1, by show Coll _ _ _ _ _ _ _ _ _; rw [hpre'.out]; exact hst'.out.2.2⟩
  case done =>
    rintro D ys W hD rfl hcoll hDK
    replace hcoll : Coll _ _ _ _ _ _ _ ((List.finRange n).map fun (i : Fin n) => phaseI p (a + i.1)) W := hcoll
    rw [phases_fin] at hcoll
    obtain ⟨u, hu, ho⟩ := hcoll.own
    have es := cell0 hu
    have hbel := Lib.hid (hbox.below.trans ((hBW.trans hcoll.kept.1).mono hbox.size))
    have hsz3 := hbox.size
    have hu' := Lib.hid hu
    have ho' := Lib.hid ho
    clear ho hu
    gi_wp2
    refine leaves_marks (w'.heap.size) [{ target := .collected D, args := #[] }] W ⟨⟨D, rfl, by omega, hDK, by simp⟩, trivial⟩ fun w9 hb hkeep => ?_
    exact ⟨_, results_tmp2 rfl _ _ _, u, rfl, hbel.out.trans (hb.mono (by omega)), own_base (own_cells ho'.out hkeep) (by omega)⟩
  case stop =>
    rintro D cc pre W _ _ h _
    exact h.elim
set_option maxHeartbeats 1000000 in
theorem pf_pat_Phases (v : Value) (p : Prog) (a n : Int) (w : World) (hv : IsProg w v p) (E : Int) (hE : phasesE p a n = E) :
    Calls Try.prog 18 #[v, .int .i64 a, .int .i64 n] w fun e w' => ∃ v', e = .returned (.tuple #[v', .int .i64 E]) ∧ Below w.heap.size w w' ∧ w'.ownsRow w.heap.size 3 1 v' (onOk E (phasesL p a n.toNat)).length ((onOk E (phasesL p a n.toNat)).map vint) := by
  have hv0 := Lib.hid hv
  unfold phasesE at hE
  obtain ⟨F, hF⟩ : ∃ F, progE p = F := ⟨_, rfl⟩
  rw [hF] at hE
  by_cases hF0 : F = 0
  · subst hF0
    obtain ⟨X1, hX1⟩ : ∃ X, within a (-5000) 5000 = X := ⟨_, rfl⟩
    obtain ⟨X2, hX2⟩ : ∃ X, within n 0 200 = X := ⟨_, rfl⟩
    rw [hX1, hX2] at hE
    by_cases hall : X1 = true ∧ X2 = true
    · obtain ⟨rfl, rfl⟩ := hall
      obtain rfl : 0 = E := hE
      obtain ⟨n1, n2⟩ := within_iff.1 hX2
      obtain ⟨m, rfl⟩ : ∃ m : Nat, n = m := ⟨n.toNat, by omega⟩
      rw [onOk_zero, Int.toNat_natCast]
      exact pf_pat_Phases_ok v p a m w hv hF hX1 hX2
    · obtain rfl : 2 = E := by
        rw [← hE]
        cases X1 <;> cases X2 <;> simp_all
      obtain ⟨v0, v1, v5, rfl, h0, h1, h5⟩ := hv
      clear hE h0 h1 h5
      have hF' := Lib.hid hF
      have hX1' := Lib.hid hX1
      have hX2' := Lib.hid hX2
      clear hX2 hX1 hF
      cases X1
      rotate_left
      · cases X2
        rotate_left
        · exact absurd ⟨rfl, rfl⟩ hall
        all_goals
          clear hall
          go_enter Try.func18, Try.ntmps18
          go_wp2_with (first | (go_at_call 51; ((with_reducible refine (pf_mounted _ p _ (hv0.out.below (alc1 _ _)) 0 hF'.out).mono ?_); rintro e w' ⟨vb, rfl, hb1, -, hok⟩; obtain ⟨b, rfl, -, -⟩ := hok rfl; have hbox := (Box.start w _).next hb1; clear hb1 hok)) | (go_at_call 53; ((with_reducible refine (pf_within_pattern _ _ _ _).mono ?_); rintro e w' ⟨rfl, rfl⟩; first | rw [hX1'.out] | rw [hX2'.out])))
          go_ret2
          exact ⟨_, rfl, hbox.below, World.ownsRow_nil _ _ _ _⟩
      all_goals
        clear hall
        go_enter Try.func18, Try.ntmps18
        go_wp2_with (first | (go_at_call 51; ((with_reducible refine (pf_mounted _ p _ (hv0.out.below (alc1 _ _)) 0 hF'.out).mono ?_); rintro e w' ⟨vb, rfl, hb1, -, hok⟩; obtain ⟨b, rfl, -, -⟩ := hok rfl; have hbox := (Box.start w _).next hb1; clear hb1 hok)) | (go_at_call 53; ((with_reducible refine (pf_within_pattern _ _ _ _).mono ?_); rintro e w' ⟨rfl, rfl⟩; first | rw [hX1'.out] | rw [hX2'.out])))
        go_ret2
        exact ⟨_, rfl, hbox.below, World.ownsRow_nil _ _ _ _⟩
  · rw [if_pos hF0] at hE
    subst hE
    obtain ⟨v0, v1, v5, rfl, h0, h1, h5⟩ := hv
    have hne : (F != 0) = true := by simpa using hF0
    have hn := Lib.hid (onOk_ne hF0 (phasesL p a n.toNat))
    clear h0 h1 h5
    have hF' := Lib.hid hF
    have hF0' := Lib.hid hF0
    clear hF0 hF
    go_enter Try.func18, Try.ntmps18
    go_wp2_with (first | (go_at_call 51; ((with_reducible refine (pf_mounted _ p _ (hv0.out.below (alc1 _ _)) F hF'.out).mono ?_); rintro e w' ⟨vb, rfl, hb1, hn1, -⟩; have hn2 := hn1 hF0'.out; subst hn2; clear hn1)))
    go_ret2
    exact ⟨_, rfl, ((Box.start w _).next hb1).below, by rw [hn.out]; exact World.ownsRow_nil _ _ _ _⟩
end Go.Proofs.Ytnboppombhibbaa
