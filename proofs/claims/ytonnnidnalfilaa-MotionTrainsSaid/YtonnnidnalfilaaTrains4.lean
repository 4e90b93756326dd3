/- Trains of wheels: the search and the reference answer alike (plain); the law. -/
import Derived.Test.YtonnnidnalfilaaTrains3
namespace Go.Proofs.Ytonnnidnalfilaa
open Go.RowKit
set_option linter.unusedVariables false

theorem first_congr {α : Type} (n : Nat) (f g : Nat → Option α) (h : ∀ j, j < n → f j = g j) : first n f = first n g := by
  unfold first
  have : ∀ l : List Nat, (∀ x ∈ l, x < n) → l.findSome? f = l.findSome? g := by
    intro l
    induction l with
    | nil => intro _; rfl
    | cons x r ih =>
      intro hl
      simp only [List.findSome?_cons]
      rw [h x (hl x (by simp)), ih fun y hy => hl y (by simp [hy])]
  exact this _ fun x hx => List.mem_range.1 hx
theorem first_mul {α : Type} (m n : Nat) (hn : 0 < n) (g : Nat → Nat → Option α) : first (m * n) (fun i => g (i / n) (i % n)) = first m fun a => first n fun b => g a b := by
  induction m with
  | zero => simp [first]
  | succ m ih =>
    unfold first at *
    rw [Nat.succ_mul, List.range_add, List.findSome?_append, ih, List.range_succ, List.findSome?_append]
    congr 1
    simp only [List.findSome?_map, List.findSome?_cons, List.findSome?_nil, Function.comp_def]
    have : (fun x => g ((m * n + x) / n) ((m * n + x) % n)) = fun x => g (m + x / n) (x % n) := by
      funext x
      rw [Nat.mul_comm m n, Nat.mul_add_div hn, Nat.mul_add_mod]
    rw [this]
    have h2 : (List.range n).findSome? (fun x => g (m + x / n) (x % n)) = (List.range n).findSome? (fun b => g m b) :=
      first_congr n _ _ fun j hj => by rw [Nat.div_eq_of_lt hj, Nat.mod_eq_of_lt hj, Nat.add_zero]
    rw [h2]
    cases (List.range n).findSome? (fun b => g m b) <;> rfl

theorem pairs_eq (ws : List Int) (num den : Int) : tsearch ws num den 2 [] 1 1 = pairs ws num den := by
  unfold pairs tsearch
  refine first_congr _ _ _ fun a ha => ?_
  simp only [List.any_nil, Bool.false_eq_true, if_false, List.length_nil, List.nil_append]
  rw [if_pos (by decide)]
  unfold tsearch
  refine first_congr _ _ _ fun b hb => ?_
  by_cases hab : a = b
  · subst hab; simp [pairAt]
  · rw [if_neg (by simp; omega), if_neg (by simp)]
    unfold tsearch pairAt
    simp only [Int.one_mul, List.cons_append, List.nil_append]
    by_cases h : ws.getD a 0 * den = ws.getD b 0 * num
    · rw [if_pos h, if_pos ⟨hab, h⟩]
    · rw [if_neg h, if_neg fun x => h x.2]

theorem quads_eq (ws : List Int) (num den : Int) : tsearch ws num den 4 [] 1 1 = quads ws num den := by
  have hq : quads ws num den = first ws.length fun a => first ws.length fun b => first ws.length fun c => first ws.length fun d => quadAt ws num den a b c d := by
    unfold quads
    rcases Nat.eq_zero_or_pos ws.length with h0 | h0
    · rw [h0]; simp [first]
    · generalize hn : ws.length = n at h0
      rw [show (fun i => quadAt ws num den (i / (n * n * n)) (i / (n * n) % n) (i / n % n) (i % n)) = fun i => (fun q d => quadAt ws num den (q / (n * n)) (q / n % n) (q % n) d) (i / n) (i % n) from by
        funext i
        simp only [Nat.div_div_eq_div_mul]
        rw [Nat.mul_comm n (n * n)]]
      rw [first_mul (n * n * n) n h0 (fun q d => quadAt ws num den (q / (n * n)) (q / n % n) (q % n) d)]
      rw [show (fun q => first n fun d => quadAt ws num den (q / (n * n)) (q / n % n) (q % n) d) = fun q => (fun r c => first n fun d => quadAt ws num den (r / n) (r % n) c d) (q / n) (q % n) from by
        funext i
        simp only [Nat.div_div_eq_div_mul]]
      rw [first_mul (n * n) n h0 (fun r c => first n fun d => quadAt ws num den (r / n) (r % n) c d)]
      rw [first_mul n n h0 (fun a b => first n fun c => first n fun d => quadAt ws num den a b c d)]
  rw [hq]
  unfold tsearch
  refine first_congr _ _ _ fun a ha => ?_
  simp only [List.any_nil, Bool.false_eq_true, if_false, List.length_nil, List.nil_append]
  rw [if_pos (by decide)]
  unfold tsearch
  refine first_congr _ _ _ fun b hb => ?_
  by_cases hab : a = b
  · subst hab
    rw [if_pos (by simp)]
    rw [first_none _ _ fun c _ => first_none _ _ fun d _ => by simp [quadAt, quadOk]]
  · rw [if_neg (by simp; omega), if_neg (by simp)]
    unfold tsearch
    refine first_congr _ _ _ fun c hc => ?_
    by_cases hac : a = c
    · subst hac
      rw [if_pos (by simp)]
      rw [first_none _ _ fun d _ => by simp [quadAt, quadOk]]
    · by_cases hbc : b = c
      · subst hbc
        rw [if_pos (by simp)]
        rw [first_none _ _ fun d _ => by simp [quadAt, quadOk]]
      · rw [if_neg (by simp; omega), if_pos (by simp)]
        unfold tsearch
        refine first_congr _ _ _ fun d hd => ?_
        by_cases had : a = d
        · subst had
          rw [if_pos (by simp)]; simp [quadAt, quadOk]
        · by_cases hbd : b = d
          · subst hbd
            rw [if_pos (by simp)]; simp [quadAt, quadOk]
          · by_cases hcd : c = d
            · subst hcd
              rw [if_pos (by simp)]; simp [quadAt, quadOk]
            · rw [if_neg (by simp; omega), if_neg (by simp)]
              unfold tsearch quadAt quadOk
              simp [hab, hac, had, hbc, hbd, hcd]

theorem train_eq (ws : List Int) (num den : Int) : trainP ws num den = trainR ws num den := by
  unfold trainP trainR
  rw [pairs_eq, quads_eq]
  split
  · rfl
  · split
    · rfl
    · cases pairs ws num den with
      | some l => rfl
      | none => cases quads ws num den <;> rfl
theorem OptInts.ints {w : World} {v : Value} {R : Option (List Int)} (h : OptInts w v R) : Ints w v (R.getD []) := by
  cases R with
  | none => obtain rfl : v = .slice none 0 0 := h; exact Arr.nil _ _
  | some l => exact h

set_option maxRecDepth 100000 in
set_option maxHeartbeats 2000000 in
theorem law_MotionTrains0 (ws : List Int) (num den : Int) (v : Value) (w : World) (hv : Ints w v ws) :
    Calls Try.prog 3 #[v, .int .i64 num, .int .i64 den] w fun e w' => e = .returned (.bool true) ∧ Below w.heap.size w w' := by
  have hv0 := Lib.hid hv
  obtain ⟨A, c, rfl, hlc, hcm, _, hr⟩ := hv
  unfold maxLen at hcm
  have hr' := Lib.hid hr
  clear hr
  by_cases hlen : 20 < ws.length
  · go_enter Try.func3, Try.ntmps3
    go_wp2
    go_ret
    exact ⟨rfl, Below.refl _ _⟩
  · go_enter Try.func3, Try.ntmps3
    go_wp2_with (first | (at_builtin; go_must (refine wpList_appI rfl _ _ 22 rfl w.heap.size 3 elemInt _ [] rfl (own_empty _ _ _ (Nat.le_refl _)) _ ws rfl (hv0.out.below (alc1 _ _)) (by simp; omega) (by simp) ?_)))
    intro v1 w1 ho1 hb1 hg1 _
    have hB1 : Below w.heap.size w w1 := (alc1 _ _).trans hb1
    have hI1 := Lib.hid (Arr.of_own ho1)
    clear hb1 ho1 hg1
    obtain ⟨R, E, hRE⟩ : ∃ R E, trainP ws num den = (R, E) := ⟨_, _, rfl⟩
    have hRE2 : trainR ws num den = (R, E) := by rw [← train_eq]; exact hRE
    have hRE' := Lib.hid hRE
    have hRE2' := Lib.hid hRE2
    clear hRE hRE2
    go_wp2_with fail
    refine (pf_Train ws num den v1 w1 (by have := hI1.out; simpa using this) R E hRE'.out).mono ?_
    rintro e w2 ⟨x, rfl, hb2, hx⟩
    have hx' := Lib.hid hx
    clear hx
    go_wp2_with fail
    refine (pf_r2_Train ws num den _ w2 (hv0.out.below (hB1.trans (hb2.mono hB1.size))) R E hRE2'.out).mono ?_
    rintro e w3 ⟨y, rfl, hb3, hy⟩
    have hX := (hx'.out.ints).below hb3
    have hY := hy.ints
    have hB3 : Below w.heap.size w w3 := (hB1.trans (hb2.mono hB1.size)).trans (hb3.mono (Nat.le_trans hB1.size hb2.size))
    have hB13 : Below w1.heap.size w1 w3 := Below.tr hb2 hb3
    have hO : Ints w3 v1 ws := by have h := hI1.out.below hB13; simpa using h
    have hV := hv0.out.below hB3
    generalize R.getD [] = xs at hX hY
    clear hx' hy hb2 hb3 hB1 hB13 hI1 hRE' hRE2' hr'
    obtain ⟨xA, xc, rfl, hxl, hxm, _, hxr⟩ := hX
    obtain ⟨yA, yc, rfl, hyl, hym, _, hyr⟩ := hY
    obtain ⟨oA, oc, rfl, hol, hom, _, hor⟩ := hO
    obtain ⟨vA, vc, hve, hvl, hvm, _, hvr⟩ := hV
    obtain ⟨rfl, -, -⟩ : A = vA ∧ True ∧ True := by injection hve with h1 h2 h3; exact ⟨h1, trivial, trivial⟩
    unfold maxLen at hxm hym hom
    have hxr' := Lib.hid hxr
    have hyr' := Lib.hid hyr
    have hor' := Lib.hid hor
    have hvr' := Lib.hid hvr
    clear hxr hyr hor hvr hve
    go_wp2
    go_loopw [46] (fun i wr => ∃ k : Nat, k ≤ xs.length ∧ i = .int .i64 k ∧ Below w3.heap.size w3 wr) (fun i _ => xs.length - (intOf i).toNat)
    case atStart => exact ⟨0, Nat.zero_le _, rfl, Below.refl _ _⟩
    case round =>
      obtain ⟨k, hk, rfl, hbw⟩ := hrel
      by_cases hlt : k < xs.length
      · obtain ⟨b1, off1, rfl, hb1, hc1⟩ := hxr'.out (by omega)
        obtain ⟨b2, off2, rfl, hb2, hc2⟩ := hyr'.out (by omega)
        have hk1 : wr.cell? ⟨b1, off1 + k, none⟩ = some (.int .i64 xs[k]) := (hbw.cell (p := ⟨b1, off1 + k, none⟩) hb1).trans (hc1 k hlt)
        have hk2 : wr.cell? ⟨b2, off2 + k, none⟩ = some (.int .i64 xs[k]) := (hbw.cell (p := ⟨b2, off2 + k, none⟩) hb2).trans (hc2 k hlt)
        generalize xs[k] = z at hk1 hk2
        have hz : (z != z) = false := by simp
        have i1 : (0 : Int) ≤ (k : Int) := by omega
        have i2 : (k : Int) < (xs.length : Int) := by omega
        clear hc1 hc2
        go_wp2
        go_quiet (fail)
        go_wp2
        go_roundw
        case rel => exact ⟨k + 1, by omega, by go_num, below_drewN' hbw _⟩
        case measure => simp [intOf]; omega
      · go_wp2
        obtain ⟨wo, rfl⟩ : ∃ wo : World, wo = wr := ⟨_, rfl⟩
        go_loopw [61] (fun i wr => ∃ k : Nat, k ≤ ws.length ∧ i = .int .i64 k ∧ Below w3.heap.size w3 wr) (fun i _ => ws.length - (intOf i).toNat)
        case atStart => exact ⟨0, Nat.zero_le _, rfl, hbw⟩
        case round =>
          obtain ⟨k, hk, rfl, hbw⟩ := hrel
          by_cases hlt : k < ws.length
          · obtain ⟨b1, off1, rfl, hb1, hc1⟩ := hor'.out (by omega)
            obtain ⟨b2, off2, rfl, hb2, hc2⟩ := hvr'.out (by omega)
            have hk1 : wr.cell? ⟨b1, off1 + k, none⟩ = some (.int .i64 ws[k]) := (hbw.cell (p := ⟨b1, off1 + k, none⟩) hb1).trans (hc1 k hlt)
            have hk2 : wr.cell? ⟨b2, off2 + k, none⟩ = some (.int .i64 ws[k]) := (hbw.cell (p := ⟨b2, off2 + k, none⟩) hb2).trans (hc2 k hlt)
            generalize ws[k] = z at hk1 hk2
            have hz : (z != z) = false := by simp
            have i1 : (0 : Int) ≤ (k : Int) := by omega
            have i2 : (k : Int) < (ws.length : Int) := by omega
            clear hc1 hc2
            go_wp2
            go_quiet (fail)
            go_wp2
            go_roundw
            case rel => exact ⟨k + 1, by omega, by go_num, below_drewN' hbw _⟩
            case measure => simp [intOf]; omega
          · go_wp2
            go_ret
            exact ⟨rfl, hB3.trans (hbw.mono hB3.size)⟩
theorem law_MotionTrains (ws : List Int) (v : Value) (num den : Int) (w : World) (hv : Ints w v ws ∧ ∀ n ∈ ws, (Lit.int .i64 n).wf = true) (h1 : (Lit.int .i64 num).wf = true) (h2 : (Lit.int .i64 den).wf = true) :
    Calls Try.prog 3 #[v, .int .i64 num, .int .i64 den] w fun e w' => e = .returned (.bool true) ∧ Below w.heap.size w w' :=
  law_MotionTrains0 ws num den v w hv.1
end Go.Proofs.Ytonnnidnalfilaa
