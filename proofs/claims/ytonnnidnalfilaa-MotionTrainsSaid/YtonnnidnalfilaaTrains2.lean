/- Trains of wheels: the functions round the search. -/
import Derived.Test.YtonnnidnalfilaaTrains
namespace Go.Proofs.Ytonnnidnalfilaa
open Go.RowKit
set_option linter.unusedVariables false

theorem pf_mo_within (n lo hi : Int) (w : World) : Calls Try.prog 7 #[.int .i64 n, .int .i64 lo, .int .i64 hi] w fun e w' => e = .returned (.bool (within n lo hi)) ∧ w = w' := by
  unfold within
  by_cases h1 : lo ≤ n
  · by_cases h2 : n ≤ hi
    all_goals
      go_enter Try.func7, Try.ntmps7
      go_wp2
      go_ret
      simp [h1, h2]
  · have h1' : decide (lo ≤ n) = false := by simpa using h1
    rw [h1', Bool.false_and]
    go_enter Try.func7, Try.ntmps7
    go_wp2
    go_ret
    exact ⟨rfl, rfl⟩
theorem pf_tr_odd (n : Int) (w : World) : Calls Try.prog 6 #[.int .i64 n] w fun e w' => e = .returned (.bool (!within n 12 200)) ∧ w = w' := by
  go_enter Try.func6, Try.ntmps6
  go_wp2_with (first | (go_at_call 7; refine (pf_mo_within _ _ _ _).mono ?_; rintro e w' ⟨rfl, rfl⟩))
  go_ret
  exact ⟨rfl, rfl⟩
theorem pf_tr_odd' (n : Int) (w : World) : Calls Try.prog 6 (#[.int .i64 n] ++ #[]) w fun e w' => e = .returned (.bool (!within n 12 200)) ∧ w = w' := by
  rw [Array.append_empty]; exact pf_tr_odd n w
theorem plain_tr_odd : Plain Try.prog 6 := fun _ _ => by kernel_rfl

/-- What Train answers: the wheels' indices, and the error. -/
def trainP (ws : List Int) (num den : Int) : Option (List Int) × Int :=
  if 16 < ws.length then (none, 4)
  else if ws.any (fun x => !within x 12 200) || !within num 1 96 || !within den 1 96 then (none, 2)
  else match tsearch ws num den 2 [] 1 1 with
    | some l => (some l, 0)
    | none => match tsearch ws num den 4 [] 1 1 with
      | some l => (some l, 0)
      | none => (none, 6)

def OptInts (w : World) (v : Value) : Option (List Int) → Prop
  | none => v = .slice none 0 0
  | some l => Ints w v l

structure TrainRel (w : World) (A : Option Addr) (c : Nat) (ws : List Int) (num den : Int) (k : Nat) (wr : World) : Prop where
  env : TsEnv wr (w.heap.size + 1 + 1) (w.heap.size + 1) w.heap.size (w.heap.size + 1 + 1 + 1) ws num den (.slice A ws.length c)
  c0 : wr.cell? ⟨w.heap.size + 1 + 1 + 1 + 1, 0, none⟩ = some (.int .i64 2)
  c1 : wr.cell? ⟨w.heap.size + 1 + 1 + 1 + 1, 1, none⟩ = some (.int .i64 4)
  lt : w.heap.size + 1 + 1 + 1 + 1 < wr.heap.size
  below : Below w.heap.size w wr
  n2 : 1 ≤ k → tsearch ws num den 2 [] 1 1 = none
  n4 : 2 ≤ k → tsearch ws num den 4 [] 1 1 = none
theorem trainRel (w : World) (A : Option Addr) (c : Nat) (ws : List Int) (num den : Int) (hv : Ints w (.slice A ws.length c) ws) :
    TrainRel w A c ws num den 0 (((((w.alloc (.cells #[.slice A ws.length c] 22)).alloc (.cells #[.int .i64 num] 3)).alloc (.cells #[.int .i64 den] 3)).alloc (.cells #[.func (.func 9) #[]
      #[.pointer (some ⟨w.heap.size + 1 + 1, 0, none⟩), .pointer (some ⟨w.heap.size + 1, 0, none⟩), .pointer (some ⟨w.heap.size, 0, none⟩), .pointer (some ⟨w.heap.size + 1 + 1 + 1, 0, none⟩)]] 32)).alloc
      (.cells #[.int .i64 2, .int .i64 4] 3)) := by
  have hb := (alc4 w (.cells #[.slice A ws.length c] 22) (.cells #[.int .i64 num] 3) (.cells #[.int .i64 den] 3) (.cells #[.func (.func 9) #[]
      #[.pointer (some ⟨w.heap.size + 1 + 1, 0, none⟩), .pointer (some ⟨w.heap.size + 1, 0, none⟩), .pointer (some ⟨w.heap.size, 0, none⟩), .pointer (some ⟨w.heap.size + 1 + 1 + 1, 0, none⟩)]] 32)).alloc (by simp; omega) (.cells #[.int .i64 2, .int .i64 4] 3)
  refine ⟨⟨?_, ?_, ?_, ?_, ?_, ?_, ?_, ?_, hv.below hb⟩, ?_, ?_, ?_, hb, fun h => absurd h (by omega), fun h => absurd h (by omega)⟩
  all_goals first
    | (simp [go_sem]; done)
    | (simp; omega)

theorem trainRel_step {w : World} {A : Option Addr} {c : Nat} {ws : List Int} {num den : Int} {k : Nat} {wr w3 : World} (hb : Below wr.heap.size wr w3) (h : TrainRel w A c ws num den k wr)
    (h2 : 1 ≤ k + 1 → tsearch ws num den 2 [] 1 1 = none) (h4 : 2 ≤ k + 1 → tsearch ws num den 4 [] 1 1 = none) : TrainRel w A c ws num den (k + 1) w3 :=
  ⟨h.env.below hb, (hb.cell (p := ⟨w.heap.size + 1 + 1 + 1 + 1, 0, none⟩) h.lt).trans h.c0, (hb.cell (p := ⟨w.heap.size + 1 + 1 + 1 + 1, 1, none⟩) h.lt).trans h.c1, Nat.lt_of_lt_of_le h.lt hb.size,
   h.below.trans (hb.mono (by have := h.lt; omega)), h2, h4⟩

set_option maxHeartbeats 1000000 in
theorem pf_Train (ws : List Int) (num den : Int) (v : Value) (w : World) (hv : Ints w v ws) (R0 : Option (List Int)) (E : Int) (hP : trainP ws num den = (R0, E)) :
    Calls Try.prog 4 #[v, .int .i64 num, .int .i64 den] w fun e w' => ∃ v', e = .returned (.tuple #[v', .int .i64 E]) ∧ Below w.heap.size w w' ∧ OptInts w' v' R0 := by
  have hv0 := Lib.hid hv
  obtain ⟨A, c, rfl, hlc, hcm, _, hr⟩ := hv
  unfold maxLen at hcm
  clear hr
  unfold trainP at hP
  by_cases hlen : 16 < ws.length
  · rw [if_pos hlen] at hP
    obtain ⟨rfl, rfl⟩ := Prod.mk.inj hP
    clear hP
    go_enter Try.func4, Try.ntmps4
    go_wp2
    go_ret2
    exact ⟨_, rfl, alc3 _ _ _ _, rfl⟩
  · rw [if_neg hlen] at hP
    obtain ⟨O, hO⟩ : ∃ O, O = ws.any (fun x => !within x 12 200) := ⟨_, rfl⟩
    obtain ⟨N, hN⟩ : ∃ N, N = within num 1 96 := ⟨_, rfl⟩
    obtain ⟨D, hD⟩ : ∃ D, D = within den 1 96 := ⟨_, rfl⟩
    rw [← hO, ← hN, ← hD] at hP
    have hO' := Lib.hid hO
    have hN' := Lib.hid hN
    have hD' := Lib.hid hD
    clear hO hN hD
    by_cases hbad : (O || !N || !D) = true
    · rw [if_pos hbad] at hP
      obtain ⟨rfl, rfl⟩ := Prod.mk.inj hP
      clear hP
      cases O with
      | true =>
        clear hbad
        go_enter Try.func4, Try.ntmps4
        go_wp2_with (first | (go_at_call 8; refine (pf_ContainsFunc (fun x => !within x 12 200) 6 #[] _ ws _ (hv0.out.below (alc3 _ _ _ _)) plain_tr_odd (fun x w1 _ => pf_tr_odd' x w1)).mono ?_; rintro e w' ⟨rfl, rfl⟩; rw [← hO'.out]) | (go_at_call 7; refine (pf_mo_within _ _ _ _).mono ?_; rintro e w' ⟨rfl, rfl⟩; first | rw [← hN'.out] | rw [← hD'.out]))
        go_ret2
        exact ⟨_, rfl, alc3 _ _ _ _, rfl⟩
      | false =>
        cases N with
        | false =>
          clear hbad
          go_enter Try.func4, Try.ntmps4
          go_wp2_with (first | (go_at_call 8; refine (pf_ContainsFunc (fun x => !within x 12 200) 6 #[] _ ws _ (hv0.out.below (alc3 _ _ _ _)) plain_tr_odd (fun x w1 _ => pf_tr_odd' x w1)).mono ?_; rintro e w' ⟨rfl, rfl⟩; rw [← hO'.out]) | (go_at_call 7; refine (pf_mo_within _ _ _ _).mono ?_; rintro e w' ⟨rfl, rfl⟩; first | rw [← hN'.out] | rw [← hD'.out]))
          go_ret2
          exact ⟨_, rfl, alc3 _ _ _ _, rfl⟩
        | true =>
          obtain rfl : D = false := by cases D; rfl; simp at hbad
          clear hbad
          go_enter Try.func4, Try.ntmps4
          go_wp2_with (first | (go_at_call 8; refine (pf_ContainsFunc (fun x => !within x 12 200) 6 #[] _ ws _ (hv0.out.below (alc3 _ _ _ _)) plain_tr_odd (fun x w1 _ => pf_tr_odd' x w1)).mono ?_; rintro e w' ⟨rfl, rfl⟩; rw [← hO'.out]) | (go_at_call 7; refine (pf_mo_within _ _ _ _).mono ?_; rintro e w' ⟨rfl, rfl⟩; first | rw [← hN'.out] | rw [← hD'.out]))
          go_ret2
          exact ⟨_, rfl, alc3 _ _ _ _, rfl⟩
    · rw [if_neg hbad] at hP
      obtain ⟨rfl, rfl, rfl⟩ : O = false ∧ N = true ∧ D = true := by cases O <;> cases N <;> cases D <;> simp_all
      clear hbad
      have hP' := Lib.hid hP
      clear hP
      have hmf : ∀ (fn : Fn) (first cap : Array Value) (w : World), (Instr.makeFunc fn first cap).run Try.prog w = .ok (.func fn first cap) w := fun _ _ _ _ => rfl
      go_enter Try.func4, Try.ntmps4
      go_wp2_with (first | (go_at_call 8; refine (pf_ContainsFunc (fun x => !within x 12 200) 6 #[] _ ws _ (hv0.out.below (alc3 _ _ _ _)) plain_tr_odd (fun x w1 _ => pf_tr_odd' x w1)).mono ?_; rintro e w' ⟨rfl, rfl⟩; rw [← hO'.out]) | (go_at_call 7; refine (pf_mo_within _ _ _ _).mono ?_; rintro e w' ⟨rfl, rfl⟩; first | rw [← hN'.out] | rw [← hD'.out]))
      have hws : ∀ x ∈ ws, 12 ≤ x ∧ x ≤ 200 := by
        intro x hx
        have h1 := hO'.out
        rw [eq_comm, List.any_eq_false] at h1
        have h2 := h1 x hx
        exact within_iff.1 (by simpa using h2)
      have hnum : 0 ≤ num ∧ num ≤ 96 := by have := within_iff.1 hN'.out.symm; omega
      have hden : 0 ≤ den ∧ den ≤ 96 := by have := within_iff.1 hD'.out.symm; omega
      have hws' := Lib.hid hws
      clear hws
      go_loopw [32] (fun i wr => ∃ k : Nat, k ≤ 2 ∧ i = .int .i64 k ∧ TrainRel w A c ws num den k wr) (fun i _ => 2 - (intOf i).toNat)
      case atStart => exact ⟨0, by omega, rfl, trainRel w A c ws num den hv0.out⟩
      case round =>
        obtain ⟨k, hk, rfl, hrel⟩ := hrel
        have hc0 := hrel.c0
        have hc1 := hrel.c1
        have hcs := hrel.env.hs
        have hrel' := Lib.hid hrel
        clear hrel
        obtain rfl | rfl | rfl : k = 0 ∨ k = 1 ∨ k = 2 := by omega
        · go_wp2_with fail
          refine (search_any ws num den hws'.out (by omega) hnum hden 2 [] (.slice none 0 0) 1 1 2 wr _ _ _ _ _ hrel'.out.env (Arr.nil _ _) (by simp) (by simp) (by simp) (by omega) (by omega)).mono ?_
          rintro e w3 ⟨v3, rfl, hpb, hpr⟩
          generalize hR : tsearch ws num den 2 [] 1 1 = R at hpr
          have hR' := Lib.hid hR
          clear hR
          have hrel3 := hrel'.out
          cases R with
          | none =>
            obtain rfl : v3 = .slice none 0 0 := hpr
            have hne := fun W => run_neq_slice_nil_any (P := Try.prog) W 22 3 none 0 0 0 0 Try.underlying22
            have hrel4 := Lib.hid (trainRel_step hpb hrel3 (fun _ => hR'.out) (fun h => absurd h (by omega)))
            clear hrel3
            go_wp2
            go_roundw
            case rel => exact ⟨0 + 1, by omega, by go_num, hrel4.out⟩
            case measure => simp [intOf]
          | some r =>
            obtain ⟨hri, ad, n, c', rfl⟩ := hpr
            have hri' := Lib.hid hri
            clear hri hrel3
            have hne := fun W => run_neq_slice_nil_any (P := Try.prog) W 22 3 (some ad) n c' 0 0 Try.underlying22
            have hPr := hP'.out
            rw [hR'.out] at hPr
            have hPE : R0 = some r ∧ E = 0 := by
              exact ⟨(Prod.mk.inj hPr).1.symm, (Prod.mk.inj hPr).2.symm⟩
            obtain ⟨rfl, rfl⟩ := hPE
            clear hPr
            go_wp2
            go_ret2
            exact ⟨_, rfl, hrel'.out.below.trans (hpb.mono (by have := hrel'.out.lt; omega)), hri'.out⟩
        · go_wp2_with fail
          refine (search_any ws num den hws'.out (by omega) hnum hden 4 [] (.slice none 0 0) 1 1 4 wr _ _ _ _ _ hrel'.out.env (Arr.nil _ _) (by simp) (by simp) (by simp) (by omega) (by omega)).mono ?_
          rintro e w3 ⟨v3, rfl, hpb, hpr⟩
          generalize hR : tsearch ws num den 4 [] 1 1 = R at hpr
          have hR' := Lib.hid hR
          clear hR
          have hrel3 := hrel'.out
          cases R with
          | none =>
            obtain rfl : v3 = .slice none 0 0 := hpr
            have hne := fun W => run_neq_slice_nil_any (P := Try.prog) W 22 3 none 0 0 0 0 Try.underlying22
            have hrel4 := Lib.hid (trainRel_step hpb hrel3 (fun _ => hrel'.out.n2 (by omega)) (fun _ => hR'.out))
            clear hrel3
            go_wp2
            go_roundw
            case rel => exact ⟨1 + 1, by omega, by go_num, hrel4.out⟩
            case measure => simp [intOf]
          | some r =>
            obtain ⟨hri, ad, n, c', rfl⟩ := hpr
            have hri' := Lib.hid hri
            clear hri hrel3
            have hne := fun W => run_neq_slice_nil_any (P := Try.prog) W 22 3 (some ad) n c' 0 0 Try.underlying22
            have hPr := hP'.out
            rw [hR'.out] at hPr
            have hPE : R0 = some r ∧ E = 0 := by
              rw [hrel'.out.n2 (by omega)] at hPr
              exact ⟨(Prod.mk.inj hPr).1.symm, (Prod.mk.inj hPr).2.symm⟩
            obtain ⟨rfl, rfl⟩ := hPE
            clear hPr
            go_wp2
            go_ret2
            exact ⟨_, rfl, hrel'.out.below.trans (hpb.mono (by have := hrel'.out.lt; omega)), hri'.out⟩
        · have hPr := hP'.out
          rw [hrel'.out.n2 (by omega), hrel'.out.n4 (by omega)] at hPr
          obtain ⟨rfl, rfl⟩ : R0 = none ∧ E = 6 := ⟨(Prod.mk.inj hPr).1.symm, (Prod.mk.inj hPr).2.symm⟩
          clear hPr
          go_wp2
          go_ret2
          exact ⟨_, rfl, hrel'.out.below, rfl⟩
end Go.Proofs.Ytonnnidnalfilaa
