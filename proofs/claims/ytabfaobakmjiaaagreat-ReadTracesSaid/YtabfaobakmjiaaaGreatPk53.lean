/- Spots that are traced to paths: the reference's Trace. -/
import Derived.Test.YtabfaobakmjiaaaGreatPk52
namespace Go.Proofs.YtabfaobakmjiaaaGreat
set_option maxRecDepth 100000
set_option maxHeartbeats 2000000
open Go.RowKit
set_option linter.unusedVariables false
set_option linter.unusedSimpArgs false
structure TgI (w W5 : World) (L : List Tra) (v : Value) (W : World) : Prop where
 kx : KeepX W5 W
 bw : Below w.heap.size w W
 row : W.ownsRow w.heap.size 37 4 v L.length (L.flatMap qAs)
theorem TgI.next {w W5 W W' : World} {L : List Tra} {v : Value} (h : TgI w W5 L v W) (hb : Below W.heap.size W W') : TgI w W5 L v W' :=
 ⟨h.kx.trans (KeepX.fresh hb), belT h.bw hb, qAb h.row hb⟩
theorem TgI.put {w W5 W Wa w7 : World} {L L' : List Tra} {v v7 : Value} (h : TgI w W5 L v W) (hb : Below W.heap.size W Wa) (hg : Wa.grownBy w7 v.ownBlock) (q1 : w7.ownsRow w.heap.size 37 4 v7 L'.length (L'.flatMap qAs)) : TgI w W5 L' v7 w7 := by
 have hoa := qAb h.row hb;refine ⟨h.kx.trans ((KeepX.fresh hb).trans (KeepX.of_grown hg fun g e cs t h9 => ?_)), Below.grown (belT h.bw hb) hg (by have := h.bw.size; have := hb.size; omega) (fun r e => (hoa.lt r e).1), q1⟩
 rcases hoa.2 with ⟨rfl, -⟩ | ⟨g', cap, cur, rfl, -, hg', -⟩
 ·cases e
 ·injection e with e;subst e;rw [hg'] at h9
  cases h9
  exact .inl rfl
theorem qJU (paths : List (List ArmA)) (n : Int) (seen : List Sp) (tol : Int) (vp vs : Value) (w : World) (hp : PathsL w vp paths) (hs : SpotsV w vs seen) :
  Calls Tryz.prog 8 #[vp, .int .i64 n, vs, .int .i64 tol] w (qGm (qCN paths n seen tol) w) := by
 obtain ⟨PA, pc, rfl, hpl⟩ := hp.form;obtain ⟨SA, sc, rfl, hsl⟩ := hs.form;obtain ⟨pl, hpn⟩ : ∃ m, paths.length = m := ⟨_, rfl⟩;obtain ⟨sl, hsn⟩ : ∃ m, seen.length = m := ⟨_, rfl⟩;rw [hpn] at hp hpl ⊢;rw [hsn] at hs hsl ⊢;obtain ⟨A1, hA1⟩ : ∃ b, qAJ (pl : Int) 1 8 = b := ⟨_, rfl⟩;obtain ⟨A2, hA2⟩ : ∃ b, qAJ n 1 16 = b := ⟨_, rfl⟩;obtain ⟨A3, hA3⟩ : ∃ b, qAJ (sl : Int) 1 (4 * n) = b := ⟨_, rfl⟩;obtain ⟨A4, hA4⟩ : ∃ b, qAJ tol 0 1000 = b := ⟨_, rfl⟩;obtain ⟨A5, hA5⟩ : ∃ b, (seen.all fun x => !farB x) = b := ⟨_, rfl⟩;have hA : trcA paths n seen tol = (A1 && (A2 && (A3 && (A4 && A5)))) := by unfold trcA; rw [hpn, hsn, hA1, hA2, hA3, hA4, hA5]
 have hbad : (A1 && (A2 && (A3 && (A4 && A5)))) = false → qCN paths n seen tol = .error 2 := fun h => by unfold qCN; rw [hA, h]; rfl
 have w4 : A2 = true → IntKind.i64.wrap (4 * n) = 4 * n := fun h => by
  rw [h] at hA2;have := within_iff.1 hA2;exact IntWalk.i64_in _ (by omega)
 have ⟨hp', hs', hpn', hsn', hA1', hA2', hA3', hA4'⟩ := hyd8 hp hs hpn hsn hA1 hA2 hA3 hA4;have ⟨hA5', hA', hbad'⟩ := hyd3 hA5 hA hbad;clear hbad hA hA5 hA4 hA3 hA2 hA1 hsn hpn hs hp;go_enter Tryz.func8, Tryz.ntmps8;go_wp2_with (fail);go_at_call 32;refine (qBf _ _ _ _).mono ?_;rintro e w' ⟨rfl, rfl⟩;rw [hA1'.out]
 by_cases e1 : A1 = false
 ·subst e1;have hres := hbad'.out rfl;have hres' := hyd1 hres;clear hres;go_wp2;exact bodyPost_ret (v := .tuple #[.slice none 0 0, .int .i64 2]) (by simp [results, Tryz.results8, go_sem]) rfl ⟨Below.refl _ _, _, _, rfl, by rw [hres'.out]; exact ⟨rfl, rfl⟩⟩
 obtain rfl : A1 = true := by cases A1 <;> simp_all
 clear e1;go_wp2_with (fail);go_at_call 32;refine (qBf _ _ _ _).mono ?_;rintro e w' ⟨rfl, rfl⟩;rw [hA2'.out]
 by_cases e1 : A2 = false
 ·subst e1;have hres := hbad'.out rfl;have hres' := hyd1 hres;clear hres;go_wp2;exact bodyPost_ret (v := .tuple #[.slice none 0 0, .int .i64 2]) (by simp [results, Tryz.results8, go_sem]) rfl ⟨Below.refl _ _, _, _, rfl, by rw [hres'.out]; exact ⟨rfl, rfl⟩⟩
 obtain rfl : A2 = true := by cases A2 <;> simp_all
 have w4 := w4 rfl;clear e1;go_wp2_with (fail);go_at_call 32;refine (qBf _ _ _ _).mono ?_;rintro e w' ⟨rfl, rfl⟩;rw [hA3'.out]
 by_cases e1 : A3 = false
 ·subst e1;have hres := hbad'.out rfl;have hres' := hyd1 hres;clear hres;go_wp2;exact bodyPost_ret (v := .tuple #[.slice none 0 0, .int .i64 2]) (by simp [results, Tryz.results8, go_sem]) rfl ⟨Below.refl _ _, _, _, rfl, by rw [hres'.out]; exact ⟨rfl, rfl⟩⟩
 obtain rfl : A3 = true := by cases A3 <;> simp_all
 clear e1;go_wp2_with (fail);go_at_call 32;refine (qBf _ _ _ _).mono ?_;rintro e w' ⟨rfl, rfl⟩;rw [hA4'.out]
 by_cases e1 : A4 = false
 ·subst e1;have hres := hbad'.out rfl;have hres' := hyd1 hres;clear hres;go_wp2;exact bodyPost_ret (v := .tuple #[.slice none 0 0, .int .i64 2]) (by simp [results, Tryz.results8, go_sem]) rfl ⟨Below.refl _ _, _, _, rfl, by rw [hres'.out]; exact ⟨rfl, rfl⟩⟩
 obtain rfl : A4 = true := by cases A4 <;> simp_all
 clear e1;have ht9 := within_iff.1 hA4'.out;have hp9 := within_iff.1 hA1'.out;have hn9 := within_iff.1 hA2'.out;have hpl8 : pl ≤ 8 := by omega
 clear w4 hp9;have ⟨ht9', hn9'⟩ := hyd2 ht9 hn9;clear hn9 ht9;go_wp2_with (fail);go_loopw [10] (fun ix wr => ∃ i : Nat, i ≤ sl ∧ ix = .int .i64 (i : Int) ∧ wr = w ∧ Hid (∀ j (h : j < seen.length), j < i → farB seen[j] = false)) (fun ix _ => sl - (intOf ix).toNat)
 case atStart => exact ⟨0, Nat.zero_le _, rfl, rfl, Lib.hid fun j _ h => absurd h (Nat.not_lt_zero _)⟩
 case round =>
  obtain ⟨i, hi, rfl, hwr, hI⟩ := hrel;obtain rfl : w = wr := hwr.symm;clear hwr
  by_cases hlt : i < sl
  ·have hiS : i < seen.length := by rw [hsn'.out]; exact hlt
   obtain ⟨bs, os, cs, heq, hbs, g0, g1⟩ := SpotsV.at hs'.out hiS;rw [hsn'.out] at heq;injection heq with e1 e2 e3;subst e1 e3;clear e2
   have hall5 : farB seen[i] = true → A5 = false := fun h => by
    rw [← hA5'.out, Bool.eq_false_iff];intro h9;have := List.all_eq_true.1 h9 _ (List.getElem_mem hiS);rw [h] at this
    cases this
   obtain ⟨⟨x1, x2⟩, hx⟩ : ∃ x, seen[i] = x := ⟨_, rfl⟩;rw [hx] at g0 g1 hall5;dsimp only at g0 g1;have j1 : (i : Int) < (sl : Int) := by omega
   have j2 : (0 : Int) ≤ (i : Int) := by omega
   obtain ⟨B1, hB1⟩ : ∃ b, qAJ x1 (-10000) 10000 = b := ⟨_, rfl⟩;obtain ⟨B2, hB2⟩ : ∃ b, qAJ x2 (-10000) 10000 = b := ⟨_, rfl⟩;have hfar : farB (x1, x2) = !(B1 && B2) := by unfold farB; rw [hB1, hB2]
   have ⟨hI', hall5', hx', hB1', hB2', hfar', hbs'⟩ := hyd7 hI hall5 hx hB1 hB2 hfar hbs;clear hbs hfar hB2 hB1 hx hall5 hI;go_wp2_with (fail);go_at_call 32;refine (qBf _ _ _ _).mono ?_;rintro e w' ⟨rfl, rfl⟩;rw [hB1'.out]
   by_cases e1 : B1 = false
   ·subst e1;obtain rfl : A5 = false := hall5'.out (by rw [hfar'.out]; rfl);have hres := hbad'.out rfl;have hres' := hyd1 hres;clear hres;go_wp2;exact bodyPost_ret (v := .tuple #[.slice none 0 0, .int .i64 2]) (by simp [results, Tryz.results8, go_sem]) rfl ⟨Below.refl _ _, _, _, rfl, by rw [hres'.out]; exact ⟨rfl, rfl⟩⟩
   obtain rfl : B1 = true := by cases B1 <;> simp_all
   clear e1;go_wp2_with (fail);go_at_call 32;refine (qBf _ _ _ _).mono ?_;rintro e w' ⟨rfl, rfl⟩;rw [hB2'.out]
   by_cases e1 : B2 = false
   ·subst e1;obtain rfl : A5 = false := hall5'.out (by rw [hfar'.out]; rfl);have hres := hbad'.out rfl;have hres' := hyd1 hres;clear hres;go_wp2;exact bodyPost_ret (v := .tuple #[.slice none 0 0, .int .i64 2]) (by simp [results, Tryz.results8, go_sem]) rfl ⟨Below.refl _ _, _, _, rfl, by rw [hres'.out]; exact ⟨rfl, rfl⟩⟩
   obtain rfl : B2 = true := by cases B2 <;> simp_all
   clear e1
   have hN : ∀ j (h : j < seen.length), j < i + 1 → farB seen[j] = false := fun j h hj => by
    by_cases e : j = i
    ·subst e; rw [hx'.out, hfar'.out]; rfl
    ·exact hI'.out.out j h (by omega)
   have hN' := hyd1 hN;clear hN;go_wp2;go_roundw
   case rel => exact ⟨i + 1, by omega, by go_num, by first | trivial | rfl, hN'⟩
   case measure => simp [intOf]; omega
  ·obtain rfl : i = sl := by omega
   obtain rfl : A5 = true := by
    rw [← hA5'.out, List.all_eq_true];intro x hx;obtain ⟨j, hj, rfl⟩ := List.getElem_of_mem hx;rw [hI.out j hj (by rw [← hsn'.out]; exact hj)]
    rfl
   have hT : qCN paths n seen tol = (match qBJ paths n seen tol pl with
    | .error e => .error e
    | .ok L => if L = [] then .error 6 else .ok L) := by unfold qCN; rw [hA'.out, hpn'.out]; rfl
   have hsb : ∀ s ∈ seen, (-10000 ≤ s.1 ∧ s.1 ≤ 10000) ∧ (-10000 ≤ s.2 ∧ s.2 ≤ 10000) := fun s hs => by
    have h9 := List.all_eq_true.1 hA5'.out s hs;unfold farB at h9;simp only [Bool.not_not, Bool.and_eq_true, within_iff] at h9;exact h9
   have ⟨hT', hsb', hI'⟩ := hyd3 hT hsb hI;clear hI hsb hT;go_wp2_with (fail);go_loopw [12, 11] (fun ix vo wr => ∃ (k : Nat) (L : List Tra), k ≤ pl ∧ ix = .int .i64 (k : Int) ∧ qBJ paths n seen tol k = .ok L ∧ Hid (TgI w w L vo wr)) (fun ix _ _ => pl - (intOf ix).toNat)
   case atStart => exact ⟨0, [], Nat.zero_le _, rfl, rfl, Lib.hid ⟨KeepX.refl _, Below.refl _ _, World.ownsRow_nil _ _ _ _⟩⟩
   case round =>
    obtain ⟨k, L, hk, rfl, hL, hI⟩ := hrel;obtain ⟨-, hbw, hrow⟩ := hI.out;obtain ⟨m, hm⟩ : ∃ m, L.length = m := ⟨_, rfl⟩;have hrow2 := hrow;rw [hm] at hrow2;obtain ⟨AO, cO, rfl⟩ := qBE hrow2;clear hrow2
    by_cases hlt : k < pl
    ·have hkp : k < paths.length := by rw [hpn'.out]; exact hlt
     obtain ⟨pb, po, pc9, vr, heq, hpb, g0, hvr⟩ := PathsL.at (hp'.out.le hbw) hkp;rw [hpn'.out] at heq;injection heq with e1 e2 e3;subst e1 e3;clear e2;have hgd : paths.getD k [] = paths[k] := by rw [List.getD_eq_getElem?_getD, List.getElem?_eq_getElem hkp]; rfl
     have hpt := qJR paths[k] n vr _ hvr;have j1 : (k : Int) < (pl : Int) := by omega
     have j2 : (0 : Int) ≤ (k : Int) := by omega
     have ⟨hL', hI', hpt', hgd', hvr', hpb', hbw', hrow'⟩ := hyd8 hL hI hpt hgd hvr hpb hbw hrow;have hm' := hyd1 hm;clear hm hrow hbw hpb hvr hgd hpt hI hL;go_wp2_with (fail);clear g0;go_at_call 33;refine hpt'.out.mono ?_;rintro e W5 ⟨hle5, v5, c5, rfl, hr5⟩;have hb5 : Below wr.heap.size wr W5 := hle5;have hbw5 := belT hbw'.out hb5;clear hle5
     cases hP : qA9 paths[k] n with
     | error z =>
      rw [hP] at hr5;obtain ⟨rfl, rfl⟩ := hr5;have hz := qGl hP;have hzb : (c5 != 0) = true := by simpa using hz
      have hT2 : qCN paths n seen tol = .error c5 := by
       rw [hT'.out, qF9 hL'.out (by rw [hgd'.out]; exact hP) pl hlt]
      have ⟨hb5', hP', hT2', hbw5'⟩ := hyd4 hb5 hP hT2 hbw5;clear hbw5 hT2 hP hb5;go_wp2;exact bodyPost_ret (v := .tuple #[.slice none 0 0, .int .i64 c5]) (by simp [results, Tryz.results8, go_sem]) rfl ⟨hbw5'.out, _, _, rfl, by rw [hT2'.out]; exact ⟨rfl, rfl⟩⟩
     | ok P =>
      rw [hP] at hr5;obtain ⟨hsv, rfl, htag⟩ := hr5;obtain ⟨hn1, hPl, hPb⟩ := qEg hP;obtain ⟨A5, c5, rfl, hP1⟩ := hsv.form;obtain ⟨pn, hpnn⟩ : ∃ m, P.length = m := ⟨_, rfl⟩;have hTn := qGj hL'.out (by rw [hgd'.out]; exact hP);have hTn2 : qBJ paths n seen tol (k + 1) = .ok (L ++ gotT P seen tol (qAh k (8 * pn))) := by rw [← hpnn]; exact hTn
      clear hTn;rw [hpnn] at hsv htag hP1 hPl ⊢;have hLl := qEh hn9'.out hL'.out
      have hI5 : TgI w W5 (L ++ gotT P seen tol (qAh k 0)) (.slice AO m cO) W5 := by
       rw [show gotT P seen tol (qAh k 0) = [] from rfl, List.append_nil];exact ⟨KeepX.refl _, hbw5, qAb hrow'.out hb5⟩
      have ⟨hb5', hP', hsv', htag', hn1', hPl', hPb', hpnn'⟩ := hyd8 hb5 hP hsv htag hn1 hPl hPb hpnn;have ⟨hTn2', hbw5', hLl', hI5'⟩ := hyd4 hTn2 hbw5 hLl hI5;clear hI5 hLl hbw5 hTn2 hpnn hPb hPl hn1 htag hsv hP hb5;go_wp2_with (fail);go_loopw [15, 11] (fun jx vo wv => ∃ j : Nat, j ≤ 8 * pn ∧ jx = .int .i64 (j : Int) ∧ Hid (TgI w W5 (L ++ gotT P seen tol (qAh k j)) vo wv)) (fun jx _ _ => 8 * pn - (intOf jx).toNat)
      case atStart => exact ⟨0, Nat.zero_le _, rfl, hI5'⟩
      case round =>
       obtain ⟨j, hj, rfl, hIj⟩ := hrel;obtain ⟨hkx, hbwj, hrj⟩ := hIj.out;obtain ⟨mj, hmj⟩ : ∃ m, (L ++ gotT P seen tol (qAh k j)).length = m := ⟨_, rfl⟩;have hrj2 := hrj;rw [hmj] at hrj2;obtain ⟨AJ, cJ, rfl⟩ := qBE hrj2;clear hrj2;have s8 : IntKind.i64.wrap ((pn : Int) * 8) = (pn : Int) * 8 := IntWalk.i64_in _ (by omega)
       by_cases hjl : j < 8 * pn
       ·have hx : wayK k j = ⟨k, j / 8, j / 2 % 4, j % 2 == 1⟩ := rfl;have hws := qEf k j;obtain ⟨fr, hfr⟩ : ∃ f, j / 8 = f := ⟨_, rfl⟩;obtain ⟨h2, hh2⟩ : ∃ f, j / 2 = f := ⟨_, rfl⟩;obtain ⟨q, hq⟩ : ∃ f, h2 % 4 = f := ⟨_, rfl⟩;obtain ⟨r, hr⟩ : ∃ f, j % 2 = f := ⟨_, rfl⟩;obtain ⟨B, hB⟩ : ∃ b, (r == 1) = b := ⟨_, rfl⟩;rw [hfr, hh2, hq, hr, hB] at hx;rw [hx] at hws;have hfl : fr < pn := by omega
        have hq3 : q ≤ 3 := by omega
        have kft := qKL P seen k fr q B tol _ _ _ (hsv'.out.keepX htag'.out hkx) (hs'.out.le (show Le w _ from hbwj)) (by rw [hpnn'.out]; exact hfl) hq3 hPb'.out hsb'.out ht9'.out;obtain ⟨F, hF⟩ : ∃ b, fitT P seen tol ⟨k, fr, q, B⟩ = b := ⟨_, rfl⟩;rw [hF] at kft;have hgs := qHi P seen tol (qAh k j) ⟨k, fr, q, B⟩;rw [hF, ← hws] at hgs;have i1 : (j : Int) < (pn : Int) * 8 := by omega
        have x1 : (j : Int).tdiv 8 = (fr : Int) := by rw [← hfr]; rfl
        have x2 : (j : Int) / 8 = (fr : Int) := by omega
        have x3 : (j : Int).tdiv 2 = (h2 : Int) := by rw [← hh2]; rfl
        have x4 : (j : Int) / 2 = (h2 : Int) := by omega
        have x5 : (h2 : Int).tmod 4 = (q : Int) := by rw [← hq]; rfl
        have x6 : (h2 : Int) % 4 = (q : Int) := by omega
        have x7 : (j : Int).tmod 2 = (r : Int) := by rw [← hr]; rfl
        have x8 : (j : Int) % 2 = (r : Int) := by omega
        have x9 : ((r : Int) == 1) = B := by rw [← hB]; cases hb : (r == 1) <;> simp_all <;> omega
        have j3 : (0 : Int) ≤ (j : Int) := by omega
        have j4 : (0 : Int) ≤ (h2 : Int) := by omega
        have ⟨hIj', hkx', hbwj', hrj', hmj', hx', hws', hfr'⟩ := hyd8 hIj hkx hbwj hrj hmj hx hws hfr;have ⟨hh2', hq', hr', hB', kft', hF', hgs'⟩ := hyd7 hh2 hq hr hB kft hF hgs;clear hgs hF kft hB hr hq hh2 hfr hws hx hmj hrj hbwj hkx hIj;go_wp2_with (fail);go_at_call 34;refine kft'.out.mono ?_;rintro e W6 ⟨rfl, hb6⟩
        cases F with
        | false =>
         have hN : TgI w W5 (L ++ gotT P seen tol (qAh k (j + 1))) (.slice AJ mj cJ) W6 := by
          rw [hgs'.out, show (if false = true then [(⟨k, fr, q, B⟩ : Tra)] else []) = [] from rfl, List.append_nil];exact hIj'.out.out.next hb6
         have ⟨hb6', hN'⟩ := hyd2 hb6 hN;clear hN hb6;go_wp2;go_roundw
         case rel => exact ⟨j + 1, by omega, by go_num, hN'⟩
         case measure => simp [intOf]; omega
        | true =>
         obtain ⟨Wa, hWa, hba, ka⟩ := newb W6 (.cells #[.int .i64 (k : Int), .int .i64 (fr : Int), .int .i64 (q : Int), .bool B] 37);have hb6a := belT hb6 hba;have hoa := qAb hrj'.out hb6a;have hza : w.heap.size ≤ Wa.heap.size := (belT hbwj'.out hb6a).size
         have hnew : ∀ (i : Nat) (y : Value), (qAs ⟨k, fr, q, B⟩)[i]? = some y → Wa.cell? ⟨W6.heap.size, i, none⟩ = some y := fun i y hu => by
          have hi4 : i < 4 := (List.getElem?_eq_some_iff.1 hu).1;obtain ⟨n0, n1, n2, n3⟩ := pc4 ka
          match i, hi4 with
          | 0, _ => rw [n0]; simpa [qAs] using hu
          | 1, _ => rw [n1]; simpa [qAs] using hu
          | 2, _ => rw [n2]; simpa [qAs] using hu
          | 3, _ => rw [n3]; simpa [qAs] using hu
         have hm1 : ((L ++ gotT P seen tol (qAh k j)) ++ [(⟨k, fr, q, B⟩ : Tra)]).length = mj + 1 := by rw [List.length_append, hmj'.out]; rfl
         have hgs2 : L ++ gotT P seen tol (qAh k (j + 1)) = (L ++ gotT P seen tol (qAh k j)) ++ [(⟨k, fr, q, B⟩ : Tra)] := by rw [hgs'.out, List.append_assoc]; rfl
         have hmj8 : mj ≤ 1000000 := by
          have h1 := qHO P seen tol (qAh k j);rw [qC1] at h1;have h2 := hLl'.out;have h3 := hmj'.out;rw [List.length_append] at h3;omega
         have hput := fun w7 v7 (hg : Wa.grownBy w7 (Value.slice AJ mj cJ).ownBlock) (q1 : w7.ownsRow w.heap.size 37 4 v7 (mj + 1) (((L ++ gotT P seen tol (qAh k j)) ++ [(⟨k, fr, q, B⟩ : Tra)]).flatMap qAs)) => TgI.put (v7 := v7) (L' := (L ++ gotT P seen tol (qAh k j)) ++ [(⟨k, fr, q, B⟩ : Tra)]) hIj'.out.out hb6a hg (by rw [hm1]; exact q1);have ⟨hb6', hba', ka', hb6a', hoa', hnew', hm1', hgs2'⟩ := hyd8 hb6 hba ka hb6a hoa hnew hm1 hgs2;have hput' := hyd1 hput;clear hput hgs2 hm1 hnew hoa hb6a ka hba hb6;go_wp2_with (first | (at_builtin; go_must (refine qJS (enc := qAs) (k := 4) (bytes := 32) _ rfl _ _ 26 (fun _ => rfl) (fun x u hu => by simp [qAs] at hu; rcases hu with rfl | rfl | rfl | rfl <;> rfl) (by decide) rfl (by decide) rfl w.heap.size 37 Tryz.underlying26 qJ7 (.slice AJ mj cJ) (L ++ gotT P seen tol (qAh k j)) rfl hoa'.out W6.heap.size ⟨k, fr, q, B⟩ rfl hnew'.out (by rw [hmj'.out]; omega) hza ?_); intro v7 w7 q1 q2 q3; rw [hm1'.out] at q1; obtain ⟨A7, c7, rfl⟩ := qBE q1; have hN := hput'.out w7 _ q2 q1; rw [← hgs2'.out] at hN; have hN' := Lib.hid hN; clear hN q1 q2 q3));clear hWa;go_roundw
         case rel => exact ⟨j + 1, by omega, by go_num, hN'⟩
         case measure => simp [intOf]; omega
       ·obtain rfl : j = 8 * pn := by omega
        have i1 : ¬ ((8 * pn : Nat) : Int) < (pn : Int) * 8 := by omega
        have hN : TgI w w (L ++ gotT P seen tol (qAh k (8 * pn))) (.slice AJ mj cJ) _ := ⟨(hI'.out.out.kx.trans (KeepX.fresh hb5'.out)).trans hkx, hbwj, hrj⟩;have ⟨hIj', hkx', hbwj', hrj', hmj', hN'⟩ := hyd6 hIj hkx hbwj hrj hmj hN;clear hN hmj hrj hbwj hkx hIj;go_wp2;go_roundw
        case rel => exact ⟨k + 1, _, by omega, by go_num, hTn2'.out, hN'⟩
        case measure => simp [intOf]; omega
    ·obtain rfl : k = pl := by omega
     have hrL : TraL wr _ L := SV.of_own (e := 37) (enc := qAs) (fun _ => rfl) hrow;have hT2 := hT'.out;rw [hL] at hT2;dsimp only at hT2
     by_cases h0 : m = 0
     ·subst h0;rw [if_pos (List.eq_nil_of_length_eq_zero hm)] at hT2;have ⟨hrow', hrL', hm', hI', hL', hbw', hT2'⟩ := hyd7 hrow hrL hm hI hL hbw hT2;clear hT2 hbw hL hI hm hrL hrow;go_wp2;exact bodyPost_ret (v := .tuple #[.slice none 0 0, .int .i64 6]) (by simp [results, Tryz.results8, go_sem]) rfl ⟨hbw'.out, _, _, rfl, by rw [hT2'.out]; exact ⟨rfl, rfl⟩⟩
     ·rw [if_neg (fun h => h0 (by rw [← hm, h]; rfl))] at hT2;have h1 : ¬ (m : Int) = 0 := by omega
      have h2 : 0 < m := by omega
      have ⟨hrow', hrL', hm', hI', hL', hbw', hT2'⟩ := hyd7 hrow hrL hm hI hL hbw hT2;clear hT2 hbw hL hI hm hrL hrow;go_wp2;exact bodyPost_ret (v := .tuple #[.slice AO m cO, .int .i64 0]) (by simp [results, Tryz.results8, go_sem]) rfl ⟨hbw'.out, _, _, rfl, by rw [hT2'.out]; exact ⟨hrL'.out, rfl⟩⟩
end Go.Proofs.YtabfaobakmjiaaaGreat
