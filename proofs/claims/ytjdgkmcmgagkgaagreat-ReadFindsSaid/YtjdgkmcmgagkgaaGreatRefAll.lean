/- The reference's All and Find: all that a picture may show (printed by gen_all.py from all.tmpl). -/
import Derived.Test.YtjdgkmcmgagkgaaGreatRefTag
import Derived.Test.YtjdgkmcmgagkgaaGreatRdSome
import Derived.Test.YtjdgkmcmgagkgaaGreatRdAlv
import Derived.Test.YtjdgkmcmgagkgaaGreatRdSee
namespace Go.Proofs.YtjdgkmcmgagkgaaGreat
set_option maxRecDepth 100000
set_option maxHeartbeats 4000000
open Go.RowKit
set_option linter.unusedVariables false
set_option linter.unusedSimpArgs false
def colA (p : Pic) (h : Nat) (t : Int) (i : Nat) : List Fnd := (List.range i).flatMap fun (i : Nat) => foundA p h t (p.al + (i : Int))
def colT (p : Pic) (NA : Nat) (h j : Nat) : List Fnd := (List.range j).flatMap fun (j : Nat) => colA p h (p.tl + (j : Int)) NA
def colH (p : Pic) (NT NA : Nat) (h : Nat) : List Fnd := (List.range h).flatMap fun h => colT p NA h NT
theorem colA_succ (p : Pic) (h : Nat) (t : Int) (i : Nat) : colA p h t (i + 1) = colA p h t i ++ foundA p h t (p.al + (i : Int)) := by unfold colA; rw [List.range_succ, List.flatMap_append]; simp
theorem colT_succ (p : Pic) (NA h j : Nat) : colT p NA h (j + 1) = colT p NA h j ++ colA p h (p.tl + (j : Int)) NA := by unfold colT; rw [List.range_succ, List.flatMap_append]; simp
theorem colH_succ (p : Pic) (NT NA h : Nat) : colH p NT NA (h + 1) = colH p NT NA h ++ colT p NA h NT := by unfold colH; rw [List.range_succ, List.flatMap_append]; simp
theorem colH_all {p : Pic} {NT NA : Nat} (ht : p.tl + (NT : Int) = p.th + 1) (ha : p.al + (NA : Int) = p.ah + 1) : colH p NT NA p.hs.length = foundL p := by
 unfold colH foundL upTo colT colA
 have e1 : (p.th - p.tl + 1).toNat = NT := by omega
 have e2 : (p.ah - p.al + 1).toNat = NA := by omega
 simp only [List.flatMap_map, e1, e2]
theorem fit_len {p : Pic} (hok : PicM p) (hst : p.steps ≤ 24) {h : Nat} (hh : h < p.hs.length) {t a : Int} (ht : 0 ≤ t ∧ t ≤ 16) (ha : -1000 ≤ a ∧ a ≤ 1000) : (fitL p.rds (p.lift h) t a).length ≤ 289 := by
 have hhd := hok.head _ (List.getElem_mem hh)
 have hlp : p.lift h = liftL p.hs[h].ros p.hs[h].rub := by unfold Pic.lift; rw [List.getD_eq_getElem?_getD, List.getElem?_eq_getElem hh]; rfl
 have hrub : rubOk p.hs[h].rub p.hs[h].ros.length = true := by rw [hhd.1]; exact hhd.2.2
 have hll : (p.lift h).length = p.steps := by rw [hlp, liftL_length]; exact hhd.1
 have hlo : rosOk (p.lift h) = true := by rw [hlp]; exact lift_ok hhd.2.1 hrub
 have hR : ∀ r ∈ p.rds, RdOk (p.lift h).length r := by rw [hll]; exact hok.rd
 have hf := (fitGo_facts hR hlo ht ha 12 (Nat.le_refl _)).2.2
 rw [fitGo_all] at hf
 omega
theorem len_flat {α : Type} (f : Nat → List α) (B : Nat) : ∀ n, (∀ i, i < n → (f i).length ≤ B) → ((List.range n).flatMap f).length ≤ n * B
 | 0, _ => by simp
 | n + 1, h => by
  rw [List.range_succ, List.flatMap_append, List.length_append]
  have h1 := len_flat f B n fun i hi => h i (by omega)
  have h2 := h n (by omega)
  simp only [List.flatMap_cons, List.flatMap_nil, List.append_nil]
  rw [Nat.add_mul]
  omega
theorem foundA_len (p : Pic) (h : Nat) (t a : Int) : (foundA p h t a).length = (fitL p.rds (p.lift h) t a).length := by unfold foundA; rw [List.length_map]
theorem colA_len {p : Pic} (hok : PicM p) (hst : p.steps ≤ 24) {h : Nat} (hh : h < p.hs.length) {t : Int} (ht : 0 ≤ t ∧ t ≤ 16) {NA i : Nat} (hA : p.al + (NA : Int) = p.ah + 1) (hi : i ≤ NA) : (colA p h t i).length ≤ i * 289 :=
 len_flat _ _ _ fun x hx => by
  have h1 := hok.al
  have h2 := hok.ah
  rw [foundA_len]
  exact fit_len hok hst hh ht ⟨by omega, by omega⟩
theorem colT_len {p : Pic} (hok : PicM p) (hst : p.steps ≤ 24) {h : Nat} (hh : h < p.hs.length) {NT NA j : Nat} (hT : p.tl + (NT : Int) = p.th + 1) (hA : p.al + (NA : Int) = p.ah + 1) (hj : j ≤ NT) : (colT p NA h j).length ≤ j * 11849 :=
 len_flat _ _ _ fun x hx => by
  have h1 := hok.tl
  have h2 := hok.th
  have h3 := hok.span
  have h5 := hok.ale
  have h4 := colA_len hok hst hh (t := p.tl + (x : Int)) ⟨by omega, by omega⟩ hA (Nat.le_refl NA)
  have h6 : NA * 289 ≤ 41 * 289 := Nat.mul_le_mul_right _ (by omega)
  omega
theorem colH_len {p : Pic} (hok : PicM p) (hst : p.steps ≤ 24) {NT NA h : Nat} (hh : h ≤ p.hs.length) (hT : p.tl + (NT : Int) = p.th + 1) (hA : p.al + (NA : Int) = p.ah + 1) : (colH p NT NA h).length ≤ h * 189584 :=
 len_flat _ _ _ fun x hx => by
  have h1 := hok.tl
  have h2 := hok.th
  have h3 := hok.tle
  have h4 := colT_len hok hst (h := x) (by omega) hT hA (Nat.le_refl NT)
  have h6 : NT * 11849 ≤ 16 * 11849 := Nat.mul_le_mul_right _ (by omega)
  omega
theorem col_len {p : Pic} (hok : PicM p) (hst : p.steps ≤ 24) {NT NA h j i k : Nat} (hh : h < p.hs.length) (hT : p.tl + (NT : Int) = p.th + 1) (hA : p.al + (NA : Int) = p.ah + 1) (hj : j < NT) (hi : i < NA) (L : List Fnd) (hL : L.length ≤ 289) :
  (colH p NT NA h ++ colT p NA h j ++ colA p h (p.tl + (j : Int)) i ++ L).length ≤ 1000000 := by
 have h1 := hok.tl
 have h2 := hok.th
 have h3 := hok.span
 have h4 := hok.heads
 have a1 := colH_len hok hst (Nat.le_of_lt hh) hT hA
 have a2 := colT_len hok hst hh hT hA (Nat.le_of_lt hj)
 have a3 := colA_len hok hst hh (t := p.tl + (j : Int)) ⟨by omega, by omega⟩ hA (Nat.le_of_lt hi)
 have b1 : h * 189584 ≤ 3 * 189584 := Nat.mul_le_mul_right _ (by omega)
 have b2 : j * 11849 ≤ 15 * 11849 := Nat.mul_le_mul_right _ (by omega)
 have b3 : i * 289 ≤ 40 * 289 := Nat.mul_le_mul_right _ (by omega)
 simp only [List.length_append]
 omega
def FaI (W1 : World) (L : List Fnd) (vo : Value) (W : World) : Prop := Below W1.heap.size W1 W ∧ W.ownsRow W1.heap.size 52 5 vo L.length (L.flatMap fndEnc)
theorem FaI.later {W1 : World} {L : List Fnd} {vo : Value} {W W' : World} (h : FaI W1 L vo W) (hb : Below W.heap.size W W') : FaI W1 L vo W' := ⟨bel_set h.1 hb, own_below h.2 hb⟩
theorem FaI.form {W1 : World} {L : List Fnd} {vo : Value} {W : World} (h : FaI W1 L vo W) : ∃ A n c, vo = .slice A n c ∧ L.length = n := by
 obtain ⟨A, c, e⟩ := slice_formR h.2
 exact ⟨A, _, c, e, rfl⟩
theorem spg_kept {w w' : World} {base e size n : Nat} {v u : Value} {xs : List Value} {L : List Spn} (h : w.ownsRow base e size v n xs) (hg : w.grownBy w' v.ownBlock) (hs : SpG w u L) (ht : e ≠ 120) : SpG w' u L := by
 have hb : ∀ (k : Nat) (cs : Array Value), w.heap[k]? = some (.cells cs 120 (0, 0)) → w'.heap[k]? = some (.cells cs 120 (0, 0)) := fun k cs hk => box_kept h hg hk ht
 obtain ⟨⟨A, c, hv, h1, h2, hN, h3⟩, h4⟩ := hs
 refine ⟨⟨A, c, hv, h1, h2, hN, fun h0 => ?_⟩, fun a n c e => ?_⟩
 ·obtain ⟨b, off, ha, hlt, hc⟩ := h3 h0
  refine ⟨b, off, ha, Nat.lt_of_lt_of_le hlt hg.size, fun j hj i u hu => ?_⟩
  obtain ⟨cs, hcs⟩ := h4 ⟨b, off, none⟩ _ _ (by rw [hv, ha])
  exact (World.cell?_of_block ((hb b cs hcs).trans hcs.symm)).trans (hc j hj i u hu)
 ·obtain ⟨cs, hcs⟩ := h4 a n c e
  exact ⟨cs, hb _ cs hcs⟩
def FdB (N : Nat) (W : World) (v : Value) (r : Fnd) : Prop := ∃ B, v = .slice (some ⟨B, 0, none⟩) 1 1 ∧ N ≤ B ∧ W.heap[B]? = some (.cells #[.int .i64 r.head, .int .i64 r.throw, .int .i64 r.adv, .int .i64 r.lo, .int .i64 r.hi] 52)
def MPred.fdB (N : Nat) (r : Fnd) : MPred := ⟨fun v W => FdB N W v r, fun _ _ _ h ⟨X, e, a, b⟩ => ⟨X, e, a, blk h b⟩⟩
theorem pf_r9_All (v : Value) (p : Pic) (w : World) (hp : IsPic w v p) (hok : PicM p) (hst : p.steps ≤ 24) :
  Calls Tryz.prog 29 #[v] w fun e w' => ∃ v', e = .returned v' ∧ Below w.heap.size w w' ∧ FndL w' v' (foundL p) := by
 have hp9 := hp
 obtain ⟨vh, vr, rfl, hh, hr⟩ := hp
 obtain ⟨HA, hc, rfl, hhl⟩ := hh.slice
 obtain ⟨RA, rc, rfl, hrl⟩ := hr.slice
 obtain ⟨W1, hW1, hb1, k1⟩ := newb w (.cells #[.slice HA p.hs.length hc, .int .i64 p.tl, .int .i64 p.th, .int .i64 p.al, .int .i64 p.ah, .slice RA p.rds.length rc] 25)
 have htl := hok.tl
 have htle := hok.tle
 have hth := hok.th
 have hal := hok.al
 have hale := hok.ale
 have hah := hok.ah
 obtain ⟨NT, hNT⟩ : ∃ N : Nat, p.tl + (N : Int) = p.th + 1 := ⟨(p.th - p.tl + 1).toNat, by omega⟩
 obtain ⟨NA, hNA⟩ : ∃ N : Nat, p.al + (N : Int) = p.ah + 1 := ⟨(p.ah - p.al + 1).toNat, by omega⟩
 have hH := hok.heads
 have hI0 : FaI W1 (colH p NT NA 0) (.slice none 0 0) W1 := ⟨Below.refl _ _, World.ownsRow_nil _ _ _ _⟩
 have hhl6 : p.hs.length ≤ 6 := by omega
 have hall := colH_all hNT hNA
 have hlen := fun (h j i : Nat) (L : List Fnd) (h1 : h < p.hs.length) (h2 : j < NT) (h3 : i < NA) (h4 : L.length ≤ 289) => col_len (k := 0) hok hst h1 hNT hNA h2 h3 L h4
 have hflen := fun (h : Nat) (t a : Int) (h1 : h < p.hs.length) (h2 : 0 ≤ t ∧ t ≤ 16) (h3 : -1000 ≤ a ∧ a ≤ 1000) => fit_len hok hst h1 h2 h3
 clear hhl hrl hH
 have ⟨hp9', hok', hst', hh', hr', hb1', k1', hI0'⟩ := hyd8 hp9 hok hst hh hr hb1 k1 hI0
 have ⟨hall', hlen', hflen'⟩ := hyd3 hall hlen hflen
 clear hflen hlen hall hI0 k1 hb1 hr hh hst hok hp9
 go_enter Tryz.func29, Tryz.ntmps29
 go_wp2_with (fail)
 clear hW1
 go_loopw [4, 3] (fun hx vo wr => ∃ h : Nat, h ≤ p.hs.length ∧ hx = .int .i64 (h : Int) ∧ Hid (FaI W1 (colH p NT NA h) vo wr)) (fun hx _ _ => p.hs.length - (intOf hx).toNat)
 case atStart => exact ⟨0, Nat.zero_le _, rfl, hI0'⟩
 case round =>
  rename World => wa
  obtain ⟨h, hh2, rfl, hI⟩ := hrel
  obtain ⟨AO, nO, cO, rfl, hnO⟩ := hI.out.form
  have hnO' := hyd1 hnO
  clear hnO
  obtain ⟨c0, c1, c2, c3, c4, c5⟩ := pc6 (blk hI.out.1 k1'.out)
  by_cases hlh : h < p.hs.length
  ·have i1 : (h : Int) < (p.hs.length : Int) := by omega
   have hT0 : FaI W1 (colH p NT NA h ++ colT p NA h 0) (.slice AO nO cO) wa := by rw [show colT p NA h 0 = [] from rfl, List.append_nil]; exact hI.out
   have hT0' := hyd1 hT0
   clear hT0
   go_wp2_with (fail)
   clear c0 c1 c2 c3 c4 c5
   go_loopw [5, 3] (fun tx vo wv => ∃ j : Nat, j ≤ NT ∧ tx = .int .i64 (p.tl + (j : Int)) ∧ Hid (FaI W1 (colH p NT NA h ++ colT p NA h j) vo wv)) (fun tx _ _ => NT - (intOf tx - p.tl).toNat)
   case atStart => exact ⟨0, Nat.zero_le _, by go_num, hT0'⟩
   case round =>
    rename World => wb
    obtain ⟨j, hj, rfl, hIb⟩ := hrel
    obtain ⟨AP, nP, cP, rfl, hnP⟩ := hIb.out.form
    have hnP' := hyd1 hnP
    clear hnP
    obtain ⟨c0, c1, c2, c3, c4, c5⟩ := pc6 (blk hIb.out.1 k1'.out)
    by_cases hlj : j < NT
    ·have i2 : p.tl + (j : Int) ≤ p.th := by omega
     have hA0 : FaI W1 (colH p NT NA h ++ colT p NA h j ++ colA p h (p.tl + (j : Int)) 0) (.slice AP nP cP) wb := by rw [show colA p h (p.tl + (j : Int)) 0 = [] from rfl, List.append_nil]; exact hIb.out
     have hA0' := hyd1 hA0
     clear hA0
     go_wp2_with (fail)
     clear c0 c1 c2 c3 c4 c5
     go_loopw [6, 3] (fun ax vo wv => ∃ i : Nat, i ≤ NA ∧ ax = .int .i64 (p.al + (i : Int)) ∧ Hid (FaI W1 (colH p NT NA h ++ colT p NA h j ++ colA p h (p.tl + (j : Int)) i) vo wv)) (fun ax _ _ => NA - (intOf ax - p.al).toNat)
     case atStart => exact ⟨0, Nat.zero_le _, by go_num, hA0'⟩
     case round =>
      rename World => wc
      obtain ⟨i, hi, rfl, hIc⟩ := hrel
      obtain ⟨AQ, nQ, cQ, rfl, hnQ⟩ := hIc.out.form
      have hnQ' := hyd1 hnQ
      clear hnQ
      obtain ⟨c0, c1, c2, c3, c4, c5⟩ := pc6 (blk hIc.out.1 k1'.out)
      by_cases hli : i < NA
      ·have i3 : p.al + (i : Int) ≤ p.ah := by omega
       have kft := pf_r9_FittingT _ p h (p.tl + (j : Int)) (p.al + (i : Int)) wc (hp9'.out.le (bel_set hb1'.out hIc.out.1)) hok'.out hlh ⟨by omega, by omega⟩ ⟨by omega, by omega⟩ hst'.out
       have hfl := hflen'.out h (p.tl + (j : Int)) (p.al + (i : Int)) hlh ⟨by omega, by omega⟩ ⟨by omega, by omega⟩
       have hle := fun L h4 => hlen'.out h j i L hlh hlj hli h4
       have hsu := colA_succ p h (p.tl + (j : Int)) i
       obtain ⟨t, ht⟩ : ∃ t, p.tl + (j : Int) = t := ⟨_, rfl⟩
       obtain ⟨a, ha⟩ : ∃ a, p.al + (i : Int) = a := ⟨_, rfl⟩
       have hIc9 := hIc.out
       rw [ht] at kft hfl hle hsu hIc9
       rw [ha] at kft hfl hsu
       obtain ⟨LL, hLL⟩ : ∃ L, colH p NT NA h ++ colT p NA h j ++ colA p h t i = L := ⟨_, rfl⟩
       rw [hLL] at hle hIc9
       rw [ht, ha]
       have hfa : foundA p h t a = (fitL p.rds (p.lift h) t a).map fun s => ⟨(h : Int), t, a, s.1, s.2⟩ := rfl
       obtain ⟨L, hL⟩ : ∃ L, fitL p.rds (p.lift h) t a = L := ⟨_, rfl⟩
       rw [hL] at kft hfl hfa
       have i4 : t ≤ p.th := by omega
       rw [ha] at i3
       have ⟨kft', hsu', hIc9', hle', hL', hfa'⟩ := hyd6 kft hsu hIc9 hle hL hfa
       clear hfa hL hle hIc9 hsu kft
       go_wp2_with (fail)
       clear c0 c1 c2 c3 c4 c5
       go_at_call 59
       refine kft'.out.mono ?_
       rintro e W9 ⟨v9, rfl, hb9, hs9⟩
       obtain ⟨A9, c9, rfl, -⟩ := id hs9.slice
       have hJ0 : FaI W1 (LL ++ (foundA p h t a).take 0) (.slice AQ nQ cQ) W9 ∧ SpG W9 (.slice A9 L.length c9) L := ⟨by rw [List.take_zero, List.append_nil]; exact hIc9'.out.later hb9, hs9⟩
       have ⟨hb9', hs9', hJ0'⟩ := hyd3 hb9 hs9 hJ0
       clear hJ0 hs9 hb9
       go_wp2_with (fail)
       go_loopw [8, 3] (fun kx vo wv => ∃ k : Nat, k ≤ L.length ∧ kx = .int .i64 (k : Int) ∧ Hid (FaI W1 (LL ++ (foundA p h t a).take k) vo wv ∧ SpG wv (.slice A9 L.length c9) L)) (fun kx _ _ => L.length - (intOf kx).toNat)
       case atStart => exact ⟨0, Nat.zero_le _, rfl, hJ0'⟩
       case round =>
        rename World => wd
        obtain ⟨k, hk, rfl, hJ⟩ := hrel
        obtain ⟨hJa, hJs⟩ := hJ.out
        obtain ⟨AO, M, cO, rfl, hM⟩ := hJa.form
        by_cases hlk : k < L.length
        ·obtain ⟨b, off, c2, heq, hbl, g0, g1⟩ := SpnL.cells hJs.1 hlk
         injection heq with e1 e2 e3
         subst e1 e3
         clear e2
         have hft : (foundA p h t a).take (k + 1) = (foundA p h t a).take k ++ [⟨(h : Int), t, a, L[k].1, L[k].2⟩] := by
          rw [hfa'.out]
          rw [List.take_succ_eq_append_getElem (by rw [List.length_map]; exact hlk)]
          simp
         obtain ⟨⟨s1, s2⟩, hs⟩ : ∃ s, L[k] = s := ⟨_, rfl⟩
         rw [hs] at g0 g1 hft
         dsimp only at g0 g1 hft
         have hm := hle'.out ((foundA p h t a).take k) (by rw [List.length_take, hfa'.out, List.length_map]; omega)
         obtain ⟨LM, hLM⟩ : ∃ l, LL ++ (foundA p h t a).take k = l := ⟨_, rfl⟩
         rw [hLM] at hm hJa hM
         have hnx : LL ++ (foundA p h t a).take (k + 1) = LM ++ [⟨(h : Int), t, a, s1, s2⟩] := by rw [hft, ← List.append_assoc, hLM]
         have hrd : ∀ W, Below wd.heap.size wd W → W.cell? ⟨b, off + k * 2, none⟩ = some (.int .i64 s1) ∧ W.cell? ⟨b, off + k * 2 + 1, none⟩ = some (.int .i64 s2) := fun W h =>
          ⟨(Below.cell h (p := ⟨b, off + k * 2, none⟩) hbl).trans g0, (Below.cell h (p := ⟨b, off + k * 2 + 1, none⟩) hbl).trans g1⟩
         have j1 : (k : Int) < (L.length : Int) := by omega
         have j2 : (0 : Int) ≤ (k : Int) := by omega
         clear g0 g1
         have ⟨hJ', hJa', hJs', hrd', hnx', hM', hLM', hm'⟩ := hyd8 hJ hJa hJs hrd hnx hM hLM hm
         have ⟨hft', hs'⟩ := hyd2 hft hs
         clear hs hft hm hLM hM hnx hrd hJs hJa hJ
         go_wp2_with (fail)
         refine wp_region_monoM (R := leRel) 16 [some 43, some 44, some 45, some 46, some 47, some 48, some 49, some 50, some 51, some 52, some 53, some 54, some 55, some 56, some 57, some 58, some 59, some 3] [[], [], [], [], [], [], [4, 5], [6], [7], [], [], [9, 10], [11], [12], [1, 2, 3, 8, 13], [14], [0, 15], [16]]
          [.eq (.slice AO M cO), .eq (.int .i64 (h : Int)), .eq (.int .i64 t), .eq (.int .i64 a), .eq (.slice (some ⟨b, off, none⟩) L.length c9), .eq (.int .i64 (k : Int)), .eq (.pointer (some ⟨b, off + k * 2, none⟩)), .eq (.pointer (some ⟨b, off + k * 2, none⟩)), .eq (.int .i64 s1), .eq (.slice (some ⟨b, off, none⟩) L.length c9), .eq (.int .i64 (k : Int)), .eq (.pointer (some ⟨b, off + k * 2, none⟩)), .eq (.pointer (some ⟨b, off + k * 2 + 1, none⟩)), .eq (.int .i64 s2), .eq (.agg #[.int .i64 (h : Int), .int .i64 t, .int .i64 a, .int .i64 s1, .int .i64 s2]), MPred.fdB wd.heap.size ⟨(h : Int), t, a, s1, s2⟩] (fun _ _ => False) (by kernel_rfl) (by kernel_rfl) (by kernel_rfl) (by kernel_rfl) (by kernel_rfl) ?_ (fun _ _ _ _ h => h.elim) ?_
         ·simp only [List.take_succ_cons, List.take_zero]
          refine sMc rfl ?_ (sMc rfl ?_ (sMc rfl ?_ (sMc rfl ?_ (sMc rfl ?_ (sMc rfl ?_ (sMc rfl ?_ (sMc rfl ?_ (sMc rfl ?_ (sMc rfl ?_ (sMc rfl ?_ (sMc rfl ?_ (sMc rfl ?_ (sMc rfl ?_ (sMc rfl ?_ (sMc rfl ?_ (stepsG_nil))))))))))))))))
          ·intro xv W hR hf Q hK hP
           simp only [fA] at hK ⊢
           go_wp2
           exact hK _ _ lrR rfl
          ·intro xv W hR hf Q hK hP
           simp only [fA] at hK ⊢
           go_wp2
           exact hK _ _ lrR rfl
          ·intro xv W hR hf Q hK hP
           simp only [fA] at hK ⊢
           go_wp2
           exact hK _ _ lrR rfl
          ·intro xv W hR hf Q hK hP
           simp only [fA] at hK ⊢
           go_wp2
           exact hK _ _ lrR rfl
          ·intro xv W hR hf Q hK hP
           simp only [fA] at hK ⊢
           go_wp2
           exact hK _ _ lrR rfl
          ·intro xv W hR hf Q hK hP
           simp only [fA] at hK ⊢
           go_wp2
           exact hK _ _ lrR rfl
          ·intro xv W hR hf Q hK hP
           obtain ⟨e0, e1, -⟩ := hf
           change _ = _ at e0 e1
           simp only [fA, e0, e1] at hK ⊢
           go_wp2
           exact hK _ _ lrR rfl
          ·intro xv W hR hf Q hK hP
           obtain ⟨e0, -⟩ := hf
           change _ = _ at e0
           simp only [fA, e0] at hK ⊢
           go_wp2
           exact hK _ _ lrR rfl
          ·intro xv W hR hf Q hK hP
           obtain ⟨e0, -⟩ := hf
           change _ = _ at e0
           obtain ⟨cc1, cc2⟩ := hrd'.out W hR
           simp only [fA, e0] at hK ⊢
           go_wp2
           exact hK _ _ lrR rfl
          ·intro xv W hR hf Q hK hP
           simp only [fA] at hK ⊢
           go_wp2
           exact hK _ _ lrR rfl
          ·intro xv W hR hf Q hK hP
           simp only [fA] at hK ⊢
           go_wp2
           exact hK _ _ lrR rfl
          ·intro xv W hR hf Q hK hP
           obtain ⟨e0, e1, -⟩ := hf
           change _ = _ at e0 e1
           simp only [fA, e0, e1] at hK ⊢
           go_wp2
           exact hK _ _ lrR rfl
          ·intro xv W hR hf Q hK hP
           obtain ⟨e0, -⟩ := hf
           change _ = _ at e0
           simp only [fA, e0] at hK ⊢
           go_wp2
           exact hK _ _ lrR rfl
          ·intro xv W hR hf Q hK hP
           obtain ⟨e0, -⟩ := hf
           change _ = _ at e0
           obtain ⟨cc1, cc2⟩ := hrd'.out W hR
           simp only [fA, e0] at hK ⊢
           go_wp2
           exact hK _ _ lrR rfl
          ·intro xv W hR hf Q hK hP
           obtain ⟨e0, e1, e2, e3, e4, -⟩ := hf
           change _ = _ at e0 e1 e2 e3 e4
           simp only [fA, e0, e1, e2, e3, e4] at hK ⊢
           go_wp2
           exact hK _ _ lrR rfl
          ·intro xv W hR hf Q hK hP
           obtain ⟨e0, -⟩ := hf
           change _ = _ at e0
           simp only [fA, e0] at hK ⊢
           have zW := Below.size hR
           have hR' := hyd1 hR
           clear hR
           go_wp2
           exact hK _ _ (alc1 _ _) ⟨_, rfl, zW, alc_at _ _⟩
         ·intro xv W3 hR hf Q' hQ1 _
          have e0 : xv 0 = .slice AO M cO := hf 0 (by decide)
          obtain ⟨X, e9, hX, kX⟩ : FdB wd.heap.size W3 (xv 15) ⟨(h : Int), t, a, s1, s2⟩ := hf 15 (by decide)
          simp only [List.drop_succ_cons, List.drop_zero]
          rw [show List.range 16 = [0, 1, 2, 3, 4, 5, 6, 7, 8, 9, 10, 11, 12, 13, 14, 15] from rfl]
          simp only [fA, e0, e9]
          clear e0 e9 hf
          have hJ3 := hJa'.out.later hR
          have ho3 := hJ3.2
          have hz3 := hJ3.1.size
          have hs3 := hJs'.out.le hR
          have hnew : ∀ (i : Nat) (u : Value), (fndEnc ⟨(h : Int), t, a, s1, s2⟩)[i]? = some u → W3.cell? ⟨X, i, none⟩ = some u := fun i u hu => by
           have hi4 : i < 5 := (List.getElem?_eq_some_iff.1 hu).1
           obtain ⟨na0, na1, na2, na3, na4⟩ := pc5 kX
           match i, hi4 with
           | 0, _ => rw [na0]; simpa [fndEnc] using hu
           | 1, _ => rw [na1]; simpa [fndEnc] using hu
           | 2, _ => rw [na2]; simpa [fndEnc] using hu
           | 3, _ => rw [na3]; simpa [fndEnc] using hu
           | 4, _ => rw [na4]; simpa [fndEnc] using hu
          have ⟨hR', hJ3', ho3', hs3', kX', hnew'⟩ := hyd6 hR hJ3 ho3 hs3 kX hnew
          clear hnew kX hs3 ho3 hJ3 hR
          go_wp2_with (first | (at_builtin; go_must (refine wpList_appT (enc := fndEnc) (k := 5) (bytes := 40) _ rfl _ _ 32 (fun _ => rfl) (fun x u hu => by simp [fndEnc] at hu; rcases hu with rfl | rfl | rfl | rfl | rfl <;> rfl) (by decide) rfl (by decide) rfl W1.heap.size 52 Tryz.underlying32 fndInfo (.slice AO M cO) LM rfl ho3'.out X ⟨(h : Int), t, a, s1, s2⟩ rfl hnew'.out hm'.out hz3 ?_)))
          intro v7 w7 q1 q2 q3
          have q1b : w7.ownsRow W1.heap.size 52 5 v7 (LL ++ (foundA p h t a).take (k + 1)).length ((LL ++ (foundA p h t a).take (k + 1)).flatMap fndEnc) := by
           rw [hnx'.out, List.length_append, List.length_singleton, List.flatMap_append, List.flatMap_singleton]
           exact q1
          obtain ⟨A7, c7, e7⟩ := slice_formR q1b
          obtain ⟨n7, hn7⟩ : ∃ n, (LL ++ (foundA p h t a).take (k + 1)).length = n := ⟨_, rfl⟩
          rw [hn7] at e7
          subst e7
          clear q1 hn7
          have hN : FaI W1 (LL ++ (foundA p h t a).take (k + 1)) (.slice A7 n7 c7) w7 ∧ SpG w7 (.slice (some ⟨b, off, none⟩) L.length c9) L := ⟨⟨hJ3'.out.1.trans (own_bel ho3'.out q2 hz3), q1b⟩, spg_kept ho3'.out q2 hs3'.out (by decide)⟩
          have ⟨q1b', q2', q3', hN'⟩ := hyd4 q1b q2 q3 hN
          clear hN q3 q2 q1b
          go_wp2
          refine hQ1 _ _ ?_
          clear hQ1
          go_wp2
          go_roundw
          case rel => exact ⟨k + 1, by omega, by go_num, hN'⟩
          case measure => simp [intOf]; omega
        ·obtain rfl : k = L.length := by omega
         have hN9 : FaI W1 (colH p NT NA h ++ colT p NA h j ++ colA p h (p.tl + (j : Int)) (i + 1)) (.slice AO M cO) wd := by
          have e : (foundA p h t a).take L.length = foundA p h t a := List.take_of_length_le (by rw [hfa'.out, List.length_map]; omega)
          rw [ht, hsu'.out, ← List.append_assoc, hLL, ← e]
          exact hJa
         subst ha ht
         have ⟨hJ', hJa', hJs', hN9', hM'⟩ := hyd5 hJ hJa hJs hN9 hM
         clear hM hN9 hJs hJa hJ
         go_wp2
         go_roundw
         case rel => exact ⟨i + 1, by omega, by go_num, hN9'⟩
         case measure => simp [intOf]; omega
      ·obtain rfl : i = NA := by omega
       have i3 : ¬ p.al + (i : Int) ≤ p.ah := by omega
       have hN9 : FaI W1 (colH p NT i h ++ colT p i h (j + 1)) (.slice AQ nQ cQ) wc := by rw [colT_succ, ← List.append_assoc]; exact hIc.out
       have hN9' := hyd1 hN9
       clear hN9
       go_wp2
       go_roundw
       case rel => exact ⟨j + 1, by omega, by go_num, hN9'⟩
       case measure => simp [intOf]; omega
    ·obtain rfl : j = NT := by omega
     have i2 : ¬ p.tl + (j : Int) ≤ p.th := by omega
     have hN9 : FaI W1 (colH p j NA (h + 1)) (.slice AP nP cP) wb := by rw [colH_succ]; exact hIb.out
     have hN9' := hyd1 hN9
     clear hN9
     go_wp2
     go_roundw
     case rel => exact ⟨h + 1, by omega, by go_num, hN9'⟩
     case measure => simp [intOf]; omega
  ·obtain rfl : h = p.hs.length := by omega
   have hI9 := hI.out
   rw [hall'.out] at hI9
   have hN9 : FndL wa (.slice AO nO cO) (foundL p) := SV.of_own (base := W1.heap.size) (e := 52) (enc := fndEnc) (k := 5) (fun _ => rfl) hI9.2
   have hbw9 := bel_set hb1'.out hI9.1
   have ⟨hN9', hbw9', hI9'⟩ := hyd3 hN9 hbw9 hI9
   clear hI9 hbw9 hN9
   go_wp2
   go_ret
   exact ⟨_, rfl, hbw9'.out, hN9'.out⟩
end Go.Proofs.YtjdgkmcmgagkgaaGreat
