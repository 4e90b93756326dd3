/- The reference's Moire. -/
import Derived.Test.YtnboppombhibbaaMoireLaw
import Derived.Test.YtnboppombhibbaaListAid
import Derived.Test.YtnboppombhibbaaL4Small
namespace Go.Proofs.Ytnboppombhibbaa
open Go.RowKit
set_option linter.unusedVariables false
set_option linter.unusedSimpArgs false
theorem Twins.next' {w : World} {cs z : Array Value} {W W2 : World} (h : Twins w cs z W) (hb : Below W.heap.size W W2) : Twins w cs z W2 :=
  ⟨h.below.trans (hb.mono h.below.size), Nat.le_trans h.size hb.size, (hb.block _ (Array.getElem?_eq_some_iff.1 h.box).1).trans h.box, (hb.block _ (Array.getElem?_eq_some_iff.1 h.out).1).trans h.out⟩
theorem Twins.nextB {w : World} {cs z : Array Value} {W W2 : World} (h : Twins w cs z W) (hb : Below (w.heap.size + 2) W W2) : Twins w cs z W2 :=
  ⟨h.below.trans (hb.mono (by omega)), Nat.le_trans h.size hb.size, (hb.block _ (by omega)).trans h.box, (hb.block _ (by omega)).trans h.out⟩
theorem Twins.fam {w : World} {a0 a1 a2 a3 a4 a5 b0 b1 b2 b3 b4 b5 : Value} {W : World} {ι : Type} {fam : ι → World} (h : Twins w #[a0, a1, a2, a3, a4, a5] #[b0, b1, b2, b3, b4, b5] W) (hf : ∀ n, Below W.heap.size W (fam n)) :
    ((∀ n, (fam n).cell? ⟨w.heap.size, 0, none⟩ = some a0) ∧ (∀ n, (fam n).cell? ⟨w.heap.size, 1, none⟩ = some a1) ∧ (∀ n, (fam n).cell? ⟨w.heap.size, 2, none⟩ = some a2) ∧ (∀ n, (fam n).cell? ⟨w.heap.size, 3, none⟩ = some a3) ∧ (∀ n, (fam n).cell? ⟨w.heap.size, 4, none⟩ = some a4) ∧ (∀ n, (fam n).cell? ⟨w.heap.size, 5, none⟩ = some a5)) ∧
    ((∀ n, (fam n).cell? ⟨w.heap.size + 1, 0, none⟩ = some b0) ∧ (∀ n, (fam n).cell? ⟨w.heap.size + 1, 1, none⟩ = some b1) ∧ (∀ n, (fam n).cell? ⟨w.heap.size + 1, 2, none⟩ = some b2) ∧ (∀ n, (fam n).cell? ⟨w.heap.size + 1, 3, none⟩ = some b3) ∧ (∀ n, (fam n).cell? ⟨w.heap.size + 1, 4, none⟩ = some b4) ∧ (∀ n, (fam n).cell? ⟨w.heap.size + 1, 5, none⟩ = some b5)) :=
  ⟨⟨fun n => (prog_cells (h.next' (hf n)).box).1, fun n => (prog_cells (h.next' (hf n)).box).2.1, fun n => (prog_cells (h.next' (hf n)).box).2.2.1, fun n => (prog_cells (h.next' (hf n)).box).2.2.2.1, fun n => (prog_cells (h.next' (hf n)).box).2.2.2.2.1, fun n => (prog_cells (h.next' (hf n)).box).2.2.2.2.2⟩,
   ⟨fun n => (prog_cells (h.next' (hf n)).out).1, fun n => (prog_cells (h.next' (hf n)).out).2.1, fun n => (prog_cells (h.next' (hf n)).out).2.2.1, fun n => (prog_cells (h.next' (hf n)).out).2.2.2.1, fun n => (prog_cells (h.next' (hf n)).out).2.2.2.2.1, fun n => (prog_cells (h.next' (hf n)).out).2.2.2.2.2⟩⟩
/-- Which differences have been seen. -/
def marks (g : Nat) (l : List Int) : List Bool := (List.range g).map fun (d : Nat) => l.any fun y => y == (d : Int)
theorem marks_length (g : Nat) (l : List Int) : (marks g l).length = g := by simp [marks]
theorem marks_get (g : Nat) (l : List Int) (d : Nat) (h : d < g) : (marks g l)[d]? = some (l.any fun y => y == (d : Int)) := by simp [marks, h]
theorem marks_nil (g : Nat) : marks g [] = List.replicate g false := by
  apply List.ext_getElem?
  intro k
  simp [marks, List.getElem?_replicate]
  by_cases h : k < g <;> simp [h]
theorem marks_hit (g : Nat) (l : List Int) (d : Nat) (h : d < g) (hm : (l.any fun y => y == (d : Int)) = false) : (marks g l).set d true = marks g (addI l d) := by
  apply List.ext_getElem?
  intro k
  rw [List.getElem?_set, marks_length]
  unfold addI
  rw [hm]
  by_cases hk : k < g
  · rw [marks_get _ _ _ hk]
    by_cases hdk : d = k
    · subst hdk; rw [marks_get _ _ _ hk]; simp [h]
    · rw [if_neg hdk, marks_get _ _ _ hk]
      have : ((d : Int) == (k : Int)) = false := beq_eq_false_iff_ne.2 (by omega)
      simp [this]
  · have h1 : (marks g l)[k]? = none := List.getElem?_eq_none (by rw [marks_length]; omega)
    have h2 : (marks g (l ++ [(d : Int)]))[k]? = none := List.getElem?_eq_none (by rw [marks_length]; omega)
    rw [if_neg (by omega), h1]
    simp [h2]
theorem elemBool : Elem1 Try.prog 105 4 (.bool false) 1 := ⟨Try.underlying105, by kernel_rfl, rfl⟩
set_option maxRecDepth 100000 in
set_option maxHeartbeats 4000000 in
theorem pf_r4_Moire_ok (vp vq : Value) (p q : Prog) (w : World) (hvp : IsProg w vp p) (hvq : IsProg w vq q) (hEp : progE p = 0) (hEq : progE q = 0) (hlen : p.ros.length = q.ros.length) :
    Calls Try.prog 28 #[vp, vq] w fun e w' => e = .returned (.tuple #[.int .i64 (togetherN p q), .int .i64 (beatN p q), .int .i64 0]) ∧ Below w.heap.size w w' := by
  have hp0 := Lib.hid hvp
  have hq0 := Lib.hid hvq
  obtain ⟨v0, v1, v5, rfl, h0, h1, h5⟩ := hvp
  obtain ⟨u0, u1, u5, rfl, k0, k1, k5⟩ := hvq
  obtain ⟨A0, c0, rfl, _, hm0, _, _⟩ := h0
  obtain ⟨A5, c5, rfl, _, hm5, _, _⟩ := h5
  obtain ⟨D0, d0, rfl, _, hn0, _, _⟩ := k0
  obtain ⟨D5, d5, rfl, _, hn5, _, _⟩ := k5
  unfold maxLen at hm0 hm5 hn0 hn5
  clear h1 k1
  have hp := benchFacts hEp
  have hq := benchFacts hEq
  have hlz : ((p.ros.length : Int) != (q.ros.length : Int)) = false := by simp [hlen]
  have hcb := common_bound hp hq
  have hlb := look_bound hp hq
  have htg := together_bound hp hq
  have hpr := hp.ros1
  have hqr := hq.ros1
  have hpp := per_pos hp
  have hqp := per_pos hq
  have hps := hp.sh1
  have hqs := hq.sh1
  have hc1 := (close_le hp).2.2
  have hc2 := (close_le hq).2.2
  have hclp : ∀ W V, IsProg W V p → Calls Try.prog 69 #[V] W fun e w' => e = .returned (.int .i64 (closeN p)) ∧ Below W.heap.size W w' := fun W V h => pf_r4_closing V p W h hp
  have hclq : ∀ W V, IsProg W V q → Calls Try.prog 69 #[V] W fun e w' => e = .returned (.int .i64 (closeN q)) ∧ Below W.heap.size W w' := fun W V h => pf_r4_closing V q W h hq
  have hperp : ∀ W V, IsProg W V p → Calls Try.prog 70 #[V] W fun e w' => e = .returned (.int .i64 (per p)) ∧ Below W.heap.size W w' := fun W V h => pf_r4_Period V p W h hp
  have hperq : ∀ W V, IsProg W V q → Calls Try.prog 70 #[V] W fun e w' => e = .returned (.int .i64 (per q)) ∧ Below W.heap.size W w' := fun W V h => pf_r4_Period V q W h hq
  have hphp : ∀ (j : Nat) W V, j ≤ 100000 → IsProg W V p → Calls Try.prog 56 #[V, .int .i64 j] W fun e w' => e = .returned (.int .i64 (phaseI p j)) ∧ Below W.heap.size W w' := fun j W V hj h => pf_r4_Phase V p j W h hp (by omega) (by omega)
  have hphq : ∀ (j : Nat) W V, j ≤ 100000 → IsProg W V q → Calls Try.prog 56 #[V, .int .i64 j] W fun e w' => e = .returned (.int .i64 (phaseI q j)) ∧ Below W.heap.size W w' := fun j W V hj h => pf_r4_Phase V q j W h hq (by omega) (by omega)
  have hgcd : ∀ W, Calls Try.prog 46 #[.int .i64 (per p), .int .i64 (per q)] W fun e w' => e = .returned (.int .i64 (commonG p q)) ∧ W = w' := fun W => pf_r2_Gcd (per p) (per q) W (by omega) (by omega)
  have hgc2 : ∀ W, Calls Try.prog 46 #[.int .i64 (closeN p), .int .i64 (closeN q)] W fun e w' => e = .returned (.int .i64 (Nat.gcd (closeN p) (closeN q))) ∧ W = w' := fun W => pf_r2_Gcd (closeN p) (closeN q) W (by omega) (by omega)
  have hdf := fun j => diff_bound hp hq j
  have hdfe : ∀ j, diffI p q j = (phaseI p j - phaseI q j) % (commonG p q : Int) := fun j => rfl
  have hyp := fun j => phaseI_bound hp j
  have hyq := fun j => phaseI_bound hq j
  have htog : togetherN p q = closeN p / Nat.gcd (closeN p) (closeN q) * closeN q := rfl
  have hlook : lookN p q = p.shifts.length * q.shifts.length * commonG p q := rfl
  have hbeat : beatN p q = (seenL p q (lookN p q)).length := rfl
  rw [htog, hbeat]
  rw [htog] at htg
  generalize hJ : lookN p q = J at *
  generalize hG : commonG p q = G at *
  generalize hcp : closeN p = cp at *
  generalize hcq : closeN q = cq at *
  generalize hg2 : Nat.gcd cp cq = g2 at *
  generalize hNp : per p = Np at *
  generalize hNq : per q = Nq at *
  have hEp' := Lib.hid hEp
  have hEq' := Lib.hid hEq
  have hlen' := Lib.hid hlen
  have hclp' := Lib.hid hclp
  have hclq' := Lib.hid hclq
  have hperp' := Lib.hid hperp
  have hperq' := Lib.hid hperq
  have hphp' := Lib.hid hphp
  have hphq' := Lib.hid hphq
  have hgcd' := Lib.hid hgcd
  have hgc2' := Lib.hid hgc2
  have hdf' := Lib.hid hdf
  have hdfe' := Lib.hid hdfe
  have hyp' := Lib.hid hyp
  have hyq' := Lib.hid hyq
  have htog' := Lib.hid htog
  have hbeat' := Lib.hid hbeat
  have hJ' := Lib.hid hJ
  have hG' := Lib.hid hG
  have hcp' := Lib.hid hcp
  have hcq' := Lib.hid hcq
  have hg2' := Lib.hid hg2
  have hNp' := Lib.hid hNp
  have hNq' := Lib.hid hNq
  have hpp' := Lib.hid hpp
  have hqp' := Lib.hid hqp
  clear hqp hpp hNq hNp hg2 hcq hcp hG hJ hbeat htog hyq hyp hdfe hdf hgc2 hgcd hphq hphp hperq hperp hclq hclp hlen hEq hEp
  have hM1 := hlb.2
  generalize hM : p.shifts.length * q.shifts.length = M at hM1 hlook
  have e1 : (p.shifts.length : Int) * (q.shifts.length : Int) = (M : Int) := by rw [← hM]; simp
  have e2 : (M : Int) * (G : Int) = (J : Int) := by rw [hlook]; simp
  have j1 : IntKind.i64.wrap ((p.shifts.length : Int) * (q.shifts.length : Int)) = (M : Int) := by rw [e1]; exact IntWalk.i64_in _ (by omega)
  have j2 : IntKind.i64.wrap ((M : Int) * (G : Int)) = (J : Int) := by rw [e2]; exact IntWalk.i64_in _ (by omega)
  have hJb := hlb.1
  have hM' := Lib.hid hM
  have hlook' := Lib.hid hlook
  have e1' := Lib.hid e1
  have e2' := Lib.hid e2
  have hlb' := Lib.hid hlb
  clear hlb e2 e1 hlook hM
  have ht := Twins.start w #[.slice A0 p.ros.length c0, v1, .int .i64 p.start, .int .i64 p.throw, .int .i64 p.adv, .slice A5 p.shifts.length c5] #[.slice D0 q.ros.length d0, u1, .int .i64 q.start, .int .i64 q.throw, .int .i64 q.adv, .slice D5 q.shifts.length d5]
  go_enter Try.func28, Try.ntmps28
  go_wp2_with (first | (go_at_call 23; ((with_reducible refine (pf_r4_Check _ p _ (hp0.out.below ht.below) 0 hEp'.out).mono ?_); rintro e w' ⟨rfl, hb⟩; have ht2 := ht.next' hb; obtain ⟨r0, r1, r2, r3, r4, r5⟩ := prog_cells ht2.out; clear hb ht)) | (go_at_call 23; ((with_reducible refine (pf_r4_Check _ q _ (hq0.out.below ht2.below) 0 hEq'.out).mono ?_); rintro e w' ⟨rfl, hb⟩; have ht3 := ht2.next' hb; obtain ⟨r0, r1, r2, r3, r4, r5⟩ := prog_cells ht3.out; obtain ⟨p0, p1, p2, p3, p4, p5⟩ := prog_cells ht3.box; clear hb ht2)))
  clear r0 r1 r2 r3 r4 r5 p0 p1 p2 p3 p4 p5
  obtain ⟨ι, fam, hne, hf1, hf2, hf0⟩ := fam_below _ w' (Nat.le_refl _)
  obtain ⟨⟨P0, P1, P2, P3, P4, P5⟩, ⟨Q0, Q1, Q2, Q3, Q4, Q5⟩⟩ := ht3.fam hf1
  have hf1' := Lib.hid hf1
  have hf2' := Lib.hid hf2
  clear hf2 hf1
  refine wp_region_fam hf0 (by kernel_rfl) (by kernel_rfl) ?_
  repeat (go_big_quiet_step ((go_at_call 69; first | exact fam_call hf2'.out (hclp'.out _ _ (hp0.out.below (ht3.next' (hf1'.out _)).below)) | exact fam_call hf2'.out (hclq'.out _ _ (hq0.out.below (ht3.next' (hf1'.out _)).below)))))
  refine wpQuiet_nil ?_
  intro nq
  have hW := hf1'.out nq
  clear P0 P1 P2 P3 P4 P5 Q0 Q1 Q2 Q3 Q4 Q5 hf0
  generalize fam nq = W1 at hW ⊢
  clear hf1' hf2'
  have ht4 := ht3.next' hW
  clear hW ht3
  go_wp2
  obtain ⟨ι, fam, hne, hf1, hf2, hf0⟩ := fam_below _ W1 (Nat.le_refl _)
  obtain ⟨⟨P0, P1, P2, P3, P4, P5⟩, ⟨Q0, Q1, Q2, Q3, Q4, Q5⟩⟩ := ht4.fam hf1
  have hf1' := Lib.hid hf1
  have hf2' := Lib.hid hf2
  clear hf2 hf1
  refine wp_region_fam hf0 (by kernel_rfl) (by kernel_rfl) ?_
  repeat (go_big_quiet_step (first | (go_at_call 70; first | exact fam_call hf2'.out (hperp'.out _ _ (hp0.out.below (ht4.next' (hf1'.out _)).below)) | exact fam_call hf2'.out (hperq'.out _ _ (hq0.out.below (ht4.next' (hf1'.out _)).below))) | (go_at_call 46; exact fam_same (hgcd'.out _))))
  refine wpQuiet_nil ?_
  intro nq
  have hW := hf1'.out nq
  clear P0 P1 P2 P3 P4 P5 Q0 Q1 Q2 Q3 Q4 Q5 hf0
  generalize fam nq = W2 at hW ⊢
  clear hf1' hf2'
  have ht5 := ht4.next' hW
  clear hW ht4
  have hsz5 := ht5.size
  go_wp2_with (first | (at_make; go_must (refine wpList_makeG (f := Value.bool) _ rfl _ _ 105 rfl (w.heap.size + 2) 4 false 1 elemBool rfl (by decide) G rfl rfl (by omega) hsz5 (marks G []) (marks_nil G) ?_)))
  intro W3 ho3 hb3 hl3
  have ht6 := ht5.next' hb3
  have ho := Lib.hid ho3
  generalize hgE : W2.heap.size = gb at ho hsz5 hl3 ⊢
  clear hb3 ho3 ht5
  have hgE' := Lib.hid hgE
  clear hgE
  go_wp2
  go_loopw [14, 13, 15] (fun i s _ wr => ∃ k : Nat, k ≤ J ∧ i = .int .i64 k ∧ s = .int .i64 ((seenL p q k).length : Nat) ∧ Twins w #[.slice A0 p.ros.length c0, v1, .int .i64 p.start, .int .i64 p.throw, .int .i64 p.adv, .slice A5 p.shifts.length c5] #[.slice D0 q.ros.length d0, u1, .int .i64 q.start, .int .i64 q.throw, .int .i64 q.adv, .slice D5 q.shifts.length d5] wr ∧ Hid (wr.ownsRow (w.heap.size + 2) 4 1 (.slice (some ⟨gb, 0, none⟩) G G) G ((marks G (seenL p q k)).map Value.bool))) (fun i _ _ _ => J - (intOf i).toNat)
  case atStart => exact ⟨0, Nat.zero_le _, rfl, rfl, ht6, ho⟩
  case round =>
    clear ht6 ho
    obtain ⟨k, hk, rfl, rfl, ht, hown⟩ := hrel
    obtain ⟨p0, p1, p2, p3, p4, p5⟩ := prog_cells ht.box
    obtain ⟨r0, r1, r2, r3, r4, r5⟩ := prog_cells ht.out
    have hlen := seenL_le p q k
    by_cases hlt : k < J
    · have hsuc := seenL_succ p q k
      have hd0 := hdf'.out k
      obtain ⟨d, hd⟩ : ∃ d : Nat, diffI p q k = (d : Int) := ⟨(diffI p q k).toNat, by omega⟩
      have hde := hdfe'.out k
      rw [hd] at hd0 hsuc hde
      have hdG : d < G := by omega
      have hb1 := hyp'.out k
      have hb2 := hyq'.out k
      have hc1 := hphp'.out k
      have hc2 := hphq'.out k
      generalize phaseI p (k : Int) = y1 at hde hb1 hc1
      generalize phaseI q (k : Int) = y2 at hde hb2 hc2
      have hcall : ∀ W : World, Calls Try.prog 71 #[.int .i64 (y1 - y2), .int .i64 G] W fun e w' => e = .returned (.int .i64 d) ∧ W = w' := fun W => by
        have h := pf_r3_Around (y1 - y2) G W (by omega) (by omega) (by unfold Mid; omega)
        rw [← hde] at h
        exact h
      have j3 : IntKind.i64.wrap (y1 - y2) = y1 - y2 := IntWalk.i64_in _ (by omega)
      generalize seenL p q k = S at hown hlen hsuc
      have hsuc' := Lib.hid hsuc
      have hde' := Lib.hid hde
      have hcall' := Lib.hid hcall
      have hc1' := Lib.hid hc1
      have hc2' := Lib.hid hc2
      clear hc2 hc1 hcall hde hsuc
      go_wp2
      obtain ⟨ι, fam, hne, hf1, hf2, hf0⟩ := fam_below _ wr (Nat.le_refl _)
      obtain ⟨⟨P0, P1, P2, P3, P4, P5⟩, ⟨Q0, Q1, Q2, Q3, Q4, Q5⟩⟩ := ht.fam hf1
      have hf1' := Lib.hid hf1
      have hf2' := Lib.hid hf2
      clear hf2 hf1
      refine wp_region_fam hf0 (by kernel_rfl) (by kernel_rfl) ?_
      repeat (go_big_quiet_step (first | (go_at_call 56; first | exact fam_call hf2'.out (hc1'.out _ _ (by omega) (hp0.out.below (ht.next' (hf1'.out _)).below)) | exact fam_call hf2'.out (hc2'.out _ _ (by omega) (hq0.out.below (ht.next' (hf1'.out _)).below))) | (go_at_call 71; exact fam_same (hcall'.out _))))
      refine wpQuiet_nil ?_
      intro nq
      have hW := hf1'.out nq
      clear P0 P1 P2 P3 P4 P5 Q0 Q1 Q2 Q3 Q4 Q5 hf0
      generalize fam nq = W4 at hW ⊢
      clear hf1' hf2'
      have ht7 := ht.next' hW
      have ho7 := Lib.hid (own_below hown.out hW)
      clear hW ht hown p0 p1 p2 p3 p4 p5 r0 r1 r2 r3 r4 r5
      obtain ⟨B, hB⟩ : ∃ B, (S.any fun y => y == (d : Int)) = B := ⟨_, rfl⟩
      have hck := own_cellG ho7.out (marks_length _ _) (marks_get G S d hdG)
      rw [hB] at hck
      have hfr := ho7.out.frozenAt d
      cases B with
      | true =>
        have hS : seenL p q (k + 1) = S := by rw [hsuc'.out]; unfold addI; rw [hB]; rfl
        have hS' := Lib.hid hS
        have hB' := Lib.hid hB
        clear hB hS
        go_wp2
        go_roundw
        case rel => exact ⟨k + 1, by omega, by go_num, by rw [hS'.out], ht7, by rw [hS'.out]; exact ho7⟩
        case measure => simp [intOf]; omega
      | false =>
        have hS : seenL p q (k + 1) = S ++ [(d : Int)] := by rw [hsuc'.out]; unfold addI; rw [hB]; rfl
        have hset := marks_hit G S d hdG hB
        have hA : addI S d = S ++ [(d : Int)] := by unfold addI; rw [hB]; rfl
        rw [hA] at hset
        have hS' := Lib.hid hS
        have hB' := Lib.hid hB
        have hset' := Lib.hid hset
        have hA' := Lib.hid hA
        clear hA hset hB hS
        go_wp2
        go_roundw
        case rel => exact ⟨k + 1, by omega, by go_num, by rw [hS'.out, List.length_append]; simp, ht7.nextB ((Below.refl _ _).setCell (p := ⟨gb, d, none⟩) hsz5 _), by rw [hS'.out, ← hset'.out]; exact Lib.hid (own_putG ho7.out d true)⟩
        case measure => simp [intOf]; omega
    · obtain rfl : k = J := by omega
      have hg1 := htg.2.2.1
      have hq1 : ((cp / g2 : Nat) : Int) = (cp : Int) / (g2 : Int) := by simp
      have hq2 : (cp : Int).tdiv (g2 : Int) = (cp : Int) / (g2 : Int) := Int.tdiv_eq_ediv_of_nonneg (by omega)
      have k1 : ((g2 : Int) == 0) = false := beq_eq_false_iff_ne.2 (by omega)
      have t1 := htg.1
      have t2 := htg.2.1
      generalize cp / g2 = D at hq1 htog' t1 t2
      have j4 : IntKind.i64.wrap ((D : Int) * (cq : Int)) = (D : Int) * cq := IntWalk.i64_in _ (by
        have e : (D : Int) * (cq : Int) = ((D * cq : Nat) : Int) := by simp
        rw [e]; omega)
      have hq3 : (cp : Int) / (g2 : Int) = (D : Int) := hq1.symm
      clear hq1 htg
      go_wp2_with (first | (go_at_call 46; ((with_reducible refine (hgc2'.out _).mono ?_); rintro e w' ⟨rfl, rfl⟩)))
      go_ret3
      exact ⟨by simp; rw [hq3], ht.below⟩
end Go.Proofs.Ytnboppombhibbaa
