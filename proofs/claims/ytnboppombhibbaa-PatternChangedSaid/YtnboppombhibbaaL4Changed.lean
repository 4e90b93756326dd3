/- The law PatternChanged: its walk. -/
import Derived.Test.YtnboppombhibbaaAlive
import Derived.Test.YtnboppombhibbaaChanged
import Derived.Test.YtnboppombhibbaaP4Gap
namespace Go.Proofs.Ytnboppombhibbaa
open Go.RowKit Go.Lib
set_option linter.unusedVariables false
set_option linter.unusedSimpArgs false
attribute [local go_sem] Oper.semAt_some
attribute [local go_sem ↓] Go.wp_at_zero Go.wp_at_succ
theorem blkNext {W W2 : World} {b : Nat} {o : Obj} (h : W.heap[b]? = some o) (hb : Below W.heap.size W W2) : W2.heap[b]? = some o := (hb.block b (Array.getElem?_eq_some_iff.1 h).1).trans h
theorem how_or : ∀ a, a ≤ 3 → ∀ b, b ≤ 3 → bits BinOp.or IntKind.u8 ((a : Nat) : Int) ((b : Nat) : Int) = ((a ||| b : Nat) : Int) := by
  have h : ∀ a, a < 4 → ∀ b, b < 4 → bits BinOp.or IntKind.u8 ((a : Nat) : Int) ((b : Nat) : Int) = ((a ||| b : Nat) : Int) := by decide
  exact fun a ha b hb => h a (by omega) b (by omega)
theorem allow_bits : ∀ h, h ≤ 3 → ∀ m b : Bool, allowB h m b = true → (m = true → (h % 2 == 1) = true) ∧ (b = true → (h / 2 % 2 == 1) = true) := by
  have k : ∀ h, h < 4 → ∀ m b : Bool, allowB h m b = true → (m = true → (h % 2 == 1) = true) ∧ (b = true → (h / 2 % 2 == 1) = true) := by decide
  exact fun h hh => k h (by omega)
set_option maxRecDepth 100000 in
set_option maxHeartbeats 8000000 in
theorem walk_PatternChanged (p : Prog) (vp : Value) (fr by_ how more : Nat) (w : World) (hvp : IsProg w vp p) (hfr : fr ≤ 255) (hby : by_ ≤ 255) (hho : how ≤ 255) (hmo : more ≤ 255) :
    Calls Try.prog 13 #[vp, .int .u8 fr, .int .u8 by_, .int .u8 how, .int .u8 more] w fun e w' => e = .returned (.bool true) ∧ Below w.heap.size w w' := by
  have hp0 := Lib.hid hvp
  obtain ⟨A0, c0, A1, c1, A5, c5, rfl⟩ := hvp.open
  clear hvp
  have hx0 := Box.start w (.cells #[.slice A0 p.ros.length c0, .slice A1 p.rub.length c1, .int .i64 p.start, .int .i64 p.throw, .int .i64 p.adv, .slice A5 p.shifts.length c5] 24)
  obtain ⟨G, hG⟩ : ∃ G, greatB p = G := ⟨_, rfl⟩
  obtain ⟨E, hE⟩ : ∃ E, progE p = E := ⟨_, rfl⟩
  by_cases hbig : G = true ∨ E ≠ 0 ∨ 3 < how ∨ 3 < more
  · have hcase : G = true ∨ (G = false ∧ (E != 0) = true) ∨ (G = false ∧ E = 0 ∧ (3 : Int) < (how : Int)) ∨ (G = false ∧ E = 0 ∧ ¬ (3 : Int) < (how : Int) ∧ (3 : Int) < (more : Int)) := by
      cases G
      · by_cases h : E = 0
        · by_cases h2 : 3 < how
          · exact .inr (.inr (.inl ⟨rfl, h, by omega⟩))
          · rcases hbig with h1 | h1 | h1 | h1
            · cases h1
            · exact absurd h h1
            · exact absurd h1 h2
            · exact .inr (.inr (.inr ⟨rfl, h, by omega, by omega⟩))
        · exact .inr (.inl ⟨rfl, by simpa using h⟩)
      · exact .inl rfl
    clear hbig
    rcases hcase with rfl | ⟨rfl, h1⟩ | ⟨rfl, rfl, h1⟩ | ⟨rfl, rfl, h1, h2⟩
    all_goals
      have hG' := Lib.hid hG
      have hE' := Lib.hid hE
      clear hE hG
      go_enter Try.func13, Try.ntmps13
      go_wp2_with (first | (go_at_call 37; ((with_reducible refine (pf_alive _).mono ?_); rintro e w' ⟨rfl, hb⟩; have hx1 := hx0.next hb; clear hb hx0; obtain ⟨p0, p1, p2, p3, p4, p5⟩ := hx1.prog)) | (go_at_call 14; ((with_reducible refine (pf_r4_Great _ p _ (hp0.out.below hx1.below)).mono ?_); rintro e w' ⟨rfl, hb⟩; rw [hG'.out]; have hx2 := hx1.next hb; clear hb hx1 p0 p1 p2 p3 p4 p5; obtain ⟨p0, p1, p2, p3, p4, p5⟩ := hx2.prog)) | (go_at_call 22; ((with_reducible refine (pf_pat_Check _ p _ (hp0.out.below hx2.below) _ hE'.out).mono ?_); rintro e w' ⟨rfl, hb⟩; have hx3 := hx2.next hb; clear hb hx2 p0 p1 p2 p3 p4 p5)))
      go_ret
      first | exact ⟨rfl, hx2.below⟩ | exact ⟨rfl, hx3.below⟩
  · have hGf : G = false := by cases G <;> simp_all
    subst hGf
    have hE0 : E = 0 := by omega
    subst hE0
    have hh3 : how ≤ 3 := by omega
    have hm3 : more ≤ 3 := by omega
    have hi1 : ¬ (3 : Int) < (how : Int) := by omega
    have hi2 : ¬ (3 : Int) < (more : Int) := by omega
    clear hbig
    have hbf := benchFacts hE
    have hn0 := hbf.sh0
    obtain ⟨f, hf⟩ : ∃ f, fr % p.shifts.length = f := ⟨_, rfl⟩
    have hfl : f < p.shifts.length := by rw [← hf]; exact Nat.mod_lt _ (by omega)
    have kch := fun W V h => pf_changed V p f by_ how W h hE hfl hby hh3
    have hqE := ch_valid hE f by_ (how % 2 == 1) (how / 2 % 2 == 1)
    have hrel := ch_rel hbf f by_ (how % 2 == 1) (how / 2 % 2 == 1)
    generalize chP p f by_ (how % 2 == 1) (how / 2 % 2 == 1) = q at kch hqE hrel
    have hqf := benchFacts hqE
    obtain ⟨s1, s2, s3⟩ := hrel.same hh3 hm3 hE hqE
    have hal := allow_bits how hh3 _ _ s3
    have hclo := hrel.close hbf hqf
    have hkin := hrel.kind hbf hqf
    have hmot := hrel.motif hbf hqf
    have htur := hrel.turn hbf hqf
    have hgap : (how / 2 % 2 == 1) = false → gapI q = gapI p := fun h => by rw [h] at hrel; exact hrel.gap hbf hqf
    have hlo := lift_ok hbf.ros hbf.rub
    obtain ⟨n, hn⟩ : ∃ n, closeN p = n := ⟨_, rfl⟩
    obtain ⟨N, hN⟩ : ∃ n, per p = n := ⟨_, rfl⟩
    obtain ⟨K, hK⟩ : ∃ n, kindI p = n := ⟨_, rfl⟩
    obtain ⟨M, hM⟩ : ∃ n, motifN p = n := ⟨_, rfl⟩
    obtain ⟨t, ht⟩ : ∃ n, turnI p = n := ⟨_, rfl⟩
    obtain ⟨u, hu⟩ : ∃ n, turnI q = n := ⟨_, rfl⟩
    obtain ⟨gp, hgp⟩ : ∃ n, gapI p = n := ⟨_, rfl⟩
    obtain ⟨gq, hgq⟩ : ∃ n, gapI q = n := ⟨_, rfl⟩
    have htb := turn_bound hbf
    have hpb := per_pos hbf
    have hrb := hbf.ros1
    rw [hn] at hclo
    rw [hK] at hkin
    rw [hM] at hmot
    rw [ht, hu, hN] at htur
    rw [hgp, hgq] at hgap
    rw [ht, hN] at htb
    rw [hN] at hpb
    have kc1 : ∀ W V, IsProg W V p → Calls Try.prog 29 #[V] W fun e w' => e = .returned (.tuple #[.int .i64 n, .int .i64 0]) ∧ Below W.heap.size W w' := fun W V h => by have h2 := pf_pat_Closes V p W h 0 hE; rw [onOkI_zero, hn] at h2; exact h2
    have kc2 : ∀ W V, IsProg W V q → Calls Try.prog 29 #[V] W fun e w' => e = .returned (.tuple #[.int .i64 n, .int .i64 0]) ∧ Below W.heap.size W w' := fun W V h => by have h2 := pf_pat_Closes V q W h 0 hqE; rw [onOkI_zero, hclo] at h2; exact h2
    have kk1 : ∀ W V, IsProg W V p → Calls Try.prog 33 #[V] W fun e w' => e = .returned (.tuple #[.int .u8 K, .int .i64 0]) ∧ Below W.heap.size W w' := fun W V h => by have h2 := pf_pat_Kind_ok V p W h hE; rw [hK] at h2; exact h2
    have kk2 : ∀ W V, IsProg W V q → Calls Try.prog 33 #[V] W fun e w' => e = .returned (.tuple #[.int .u8 K, .int .i64 0]) ∧ Below W.heap.size W w' := fun W V h => by have h2 := pf_pat_Kind_ok V q W h hqE; rw [hkin] at h2; exact h2
    have km1 : ∀ W V, IsProg W V p → Calls Try.prog 31 #[V] W fun e w' => e = .returned (.tuple #[.int .i64 M, .int .i64 t, .int .i64 0]) ∧ Below W.heap.size W w' := fun W V h => by have h2 := pf_pat_Motif V p W h 0 hE; rw [onOkI_zero, onOkI_zero, hM, ht] at h2; exact h2
    have km2 : ∀ W V, IsProg W V q → Calls Try.prog 31 #[V] W fun e w' => e = .returned (.tuple #[.int .i64 M, .int .i64 u, .int .i64 0]) ∧ Below W.heap.size W w' := fun W V h => by have h2 := pf_pat_Motif V q W h 0 hqE; rw [onOkI_zero, onOkI_zero, hmot, hu] at h2; exact h2
    have kg1 : ∀ W V, IsProg W V p → Calls Try.prog 35 #[V] W fun e w' => e = .returned (.tuple #[.int .i64 gp, .int .i64 0]) ∧ Below W.heap.size W w' := fun W V h => by have h2 := pf_pat_Gap_ok V p W h hE; rw [hgp] at h2; exact h2
    have kg2 : ∀ W V, IsProg W V q → Calls Try.prog 35 #[V] W fun e w' => e = .returned (.tuple #[.int .i64 gq, .int .i64 0]) ∧ Below W.heap.size W w' := fun W V h => by have h2 := pf_pat_Gap_ok V q W h hqE; rw [hgq] at h2; exact h2
    have klift : ∀ W V, IsProg W V p → Calls Try.prog 16 #[V] W fun e w' => ∃ v', e = .returned (.tuple #[v', .int .i64 0]) ∧ Below W.heap.size W w' ∧ Ints w' v' (liftL p.ros p.rub) := fun W V h => (pf_pat_Lift V p W h 0 hE).mono (by rintro e w' ⟨v', h1, h2, h3⟩; exact ⟨v', h1, h2, own_ints h3⟩)
    have kper : ∀ W V, Ints W V (liftL p.ros p.rub) → Calls Try.prog 42 #[V] W fun e w' => e = .returned (.tuple #[.int .i64 N, .int .i64 0]) ∧ Below W.heap.size W w' := fun W V h => by rw [← hN]; exact pf_ros_Period V _ W h hlo
    obtain ⟨x, hxm⟩ : ∃ x, sameM p q how = x := ⟨_, rfl⟩
    rw [hxm] at hal
    obtain ⟨xc, xt, xm, xb⟩ := x
    have ks1 : ∀ W V U, IsProg W V p → IsProg W U q → Calls Try.prog 45 #[V, U, .int .u8 how] W fun e w' => e = .returned (.tuple #[.agg #[.int .i64 xc, .int .i64 xt, .bool xm, .bool xb], .int .i64 0]) ∧ Below W.heap.size W w' := fun W V U h k => by have h2 := pf_pat_Same V U p q how W h k 0 s1; rw [hxm] at h2; exact h2
    obtain ⟨z, hzm⟩ : ∃ z, sameM q p (how ||| more) = z := ⟨_, rfl⟩
    obtain ⟨zc, zt, zm, zb⟩ := z
    obtain ⟨hm, hhm⟩ : ∃ r, bits BinOp.or IntKind.u8 (how : Int) (more : Int) = r := ⟨_, rfl⟩
    have ks2 : ∀ W V U, IsProg W V q → IsProg W U p → Calls Try.prog 45 #[V, U, .int .u8 hm] W fun e w' => e = .returned (.tuple #[.agg #[.int .i64 zc, .int .i64 zt, .bool zm, .bool zb], .int .i64 0]) ∧ Below W.heap.size W w' := fun W V U h k => by
      have h2 := pf_pat_Same V U q p (how ||| more) W h k 0 s2
      rw [hzm] at h2
      rw [← hhm, how_or how hh3 more hm3]
      exact h2
    obtain ⟨b1, b2⟩ := how_bits how hh3
    obtain ⟨r1, hr1⟩ : ∃ r, bits .and .u8 (how : Int) 1 = r := ⟨_, rfl⟩
    obtain ⟨r2, hr2⟩ : ∃ r, bits .and .u8 (how : Int) 2 = r := ⟨_, rfl⟩
    rw [hr1] at b1
    rw [hr2] at b2
    have hx1 : xm = true → (r1 == 0) = false := fun h => by
      have h1 := hal.1 h
      rw [← b1] at h1
      simpa using h1
    have hx2 : xb = true → (r2 == 0) = false := fun h => by
      have h1 := hal.2 h
      rw [← b2] at h1
      simpa using h1
    have hgc : (gp == gq) = true ∨ (gp == gq) = false ∧ (r2 != 0) = true := by
      cases hb : (how / 2 % 2 == 1)
      · left
        rw [hgap hb]
        simp
      · rw [hb] at b2
        cases hg : (gp == gq)
        · exact .inr ⟨rfl, b2⟩
        · exact .inl rfl
    have htc : (t != u) = false ∨ (t != u) = true ∧ (t + u).tmod (N : Int) = 0 := by
      rcases htur with h | ⟨h1, h2⟩
      · left; simp [h]
      · cases ht2 : (t != u)
        · exact .inl rfl
        · exact .inr ⟨rfl, by rw [h1]; exact Int.tmod_self⟩
    have kck : ∀ W V, IsProg W V q → Calls Try.prog 22 #[V] W fun e w' => e = .returned (.int .i64 0) ∧ Below W.heap.size W w' := fun W V h => pf_pat_Check V q W h 0 hqE
    have ub := turn_bound hqf
    rw [hu, hrel.perEq hbf hqf, hN] at ub
    have ew : IntKind.i64.wrap (t + u) = t + u := IntWalk.i64_in _ (by omega)
    have eN : ¬ (N : Int) = 0 := by omega
    have ef : (fr : Int).tmod (p.shifts.length : Int) = (f : Int) := by rw [← hf]; rfl
    have enz : ¬ (p.shifts.length : Int) = 0 := by omega
    have ewf : IntKind.i64.wrap (fr : Int) = (fr : Int) := IntWalk.i64_in _ (by omega)
    have ewb : IntKind.i64.wrap (by_ : Int) = (by_ : Int) := IntWalk.i64_in _ (by omega)
    have eni : (0 : Int) < (p.shifts.length : Int) := by omega
    have elz : ((p.shifts.length : Int) == 0) = false := beq_eq_false_iff_ne.2 (by omega)
    have eln : ¬ p.shifts.length = 0 := by omega
    have efm : (fr : Int) % (p.shifts.length : Int) = (f : Int) := by rw [← hf]; simp
    clear htur hgap htb hpb ub hal
    have hG' := Lib.hid hG
    have hE' := Lib.hid hE
    have hbf' := Lib.hid hbf
    have hf' := Lib.hid hf
    have hfl' := Lib.hid hfl
    have kch' := Lib.hid kch
    have hqE' := Lib.hid hqE
    have hrel' := Lib.hid hrel
    have hqf' := Lib.hid hqf
    have s1' := Lib.hid s1
    have s2' := Lib.hid s2
    have s3' := Lib.hid s3
    have hclo' := Lib.hid hclo
    have hkin' := Lib.hid hkin
    have hmot' := Lib.hid hmot
    have hlo' := Lib.hid hlo
    have hn' := Lib.hid hn
    have hN' := Lib.hid hN
    have hK' := Lib.hid hK
    have hM' := Lib.hid hM
    have ht' := Lib.hid ht
    have hu' := Lib.hid hu
    have hgp' := Lib.hid hgp
    have hgq' := Lib.hid hgq
    have kc1' := Lib.hid kc1
    have kc2' := Lib.hid kc2
    have kk1' := Lib.hid kk1
    have kk2' := Lib.hid kk2
    have km1' := Lib.hid km1
    have km2' := Lib.hid km2
    have kg1' := Lib.hid kg1
    have kg2' := Lib.hid kg2
    have klift' := Lib.hid klift
    have kper' := Lib.hid kper
    have hxm' := Lib.hid hxm
    have ks1' := Lib.hid ks1
    have hzm' := Lib.hid hzm
    have ks2' := Lib.hid ks2
    have hx1' := Lib.hid hx1
    have hx2' := Lib.hid hx2
    have hgc' := Lib.hid hgc
    have htc' := Lib.hid htc
    have kck' := Lib.hid kck
    have b1' := Lib.hid b1
    have b2' := Lib.hid b2
    clear b2 b1 kck htc hgc hx2 hx1 ks2 hzm ks1 hxm kper klift kg2 kg1 km2 km1 kk2 kk1 kc2 kc1 hgq hgp hu ht hM hK hN hn hlo hmot hkin hclo s3 s2 s1 hqf hrel hqE kch hfl hf hbf hE hG
    go_enter Try.func13, Try.ntmps13
    go_upto_region 4 with (first | (go_at_call 37; (with_reducible refine (pf_alive _).mono ?_); rintro e w' ⟨rfl, hb⟩; have hx1 := hx0.next hb; clear hb hx0; obtain ⟨p0, p1, p2, p3, p4, p5⟩ := hx1.prog) | (go_at_call 14; (with_reducible refine (pf_r4_Great _ p _ (hp0.out.below hx1.below)).mono ?_); rintro e w' ⟨rfl, hb⟩; rw [hG'.out]; have hx2 := hx1.next hb; clear hb hx1 p0 p1 p2 p3 p4 p5; obtain ⟨p0, p1, p2, p3, p4, p5⟩ := hx2.prog) | (go_at_call 22; (with_reducible refine (pf_pat_Check _ p _ (hp0.out.below hx2.below) _ hE'.out).mono ?_); rintro e w' ⟨rfl, hb⟩; have hx3 := hx2.next hb; clear hb hx2 p0 p1 p2 p3 p4 p5; obtain ⟨p0, p1, p2, p3, p4, p5⟩ := hx3.prog))
    have hz0 : (w'.alloc (.cells #[.slice none 0 0, .slice none 0 0, .int .i64 0, .int .i64 0, .int .i64 0, .slice none 0 0] 24)).drew.heap[w'.heap.size]? = some (.cells #[.slice none 0 0, .slice none 0 0, .int .i64 0, .int .i64 0, .int .i64 0, .slice none 0 0] 24) := heap_alloc_new w' (.cells #[.slice none 0 0, .slice none 0 0, .int .i64 0, .int .i64 0, .int .i64 0, .slice none 0 0] 24)
    have hzl := (Array.getElem?_eq_some_iff.1 hz0).1
    have hz0' := Lib.hid hz0
    clear hz0
    have hx4 := hx3.drew
    go_region_held3 (fun w' => w'.cell? ⟨w.heap.size, 0, none⟩ = some (.slice A0 p.ros.length c0) ∧ w'.cell? ⟨w.heap.size, 1, none⟩ = some (.slice A1 p.rub.length c1) ∧ w'.cell? ⟨w.heap.size, 2, none⟩ = some (.int .i64 p.start) ∧ w'.cell? ⟨w.heap.size, 3, none⟩ = some (.int .i64 p.throw) ∧ w'.cell? ⟨w.heap.size, 4, none⟩ = some (.int .i64 p.adv) ∧ w'.cell? ⟨w.heap.size, 5, none⟩ = some (.slice A5 p.shifts.length c5)) (go_keep) (first | (go_at_call 49; with_reducible refine (kch'.out _ _ (hp0.out.below (hx4).below)).mono ?_; rintro e w5 ⟨uq, rfl, hb, hqq⟩; have hq := hqq w5 (fun _ _ => rfl); have hQQ := Lib.hid hqq; clear hqq; have hx5 : Box w w.heap.size (.cells #[.slice A0 p.ros.length c0, .slice A1 p.rub.length c1, .int .i64 p.start, .int .i64 p.throw, .int .i64 p.adv, .slice A5 p.shifts.length c5] 24) w5 := (hx4).next hb; obtain ⟨D0, e0, D1, e1, D5, e5, rfl⟩ := hq.open; have hq0 := Lib.hid hq; have hb5 := Lib.hid hb; clear hb hq p0 p1 p2 p3 p4 p5; obtain ⟨p0, p1, p2, p3, p4, p5⟩ := hx5.prog) | (go_at_call 49; with_reducible refine (kch'.out _ _ (hp0.out.below ((hx3.alloc (.cells #[.slice none 0 0, .slice none 0 0, .int .i64 0, .int .i64 0, .int .i64 0, .slice none 0 0] 24)).drew).below)).mono ?_; rintro e w5 ⟨uq, rfl, hb, hqq⟩; have hq := hqq w5 (fun _ _ => rfl); have hQQ := Lib.hid hqq; clear hqq; have hx5 : Box w w.heap.size (.cells #[.slice A0 p.ros.length c0, .slice A1 p.rub.length c1, .int .i64 p.start, .int .i64 p.throw, .int .i64 p.adv, .slice A5 p.shifts.length c5] 24) w5 := ((hx3.alloc (.cells #[.slice none 0 0, .slice none 0 0, .int .i64 0, .int .i64 0, .int .i64 0, .slice none 0 0] 24)).drew).next hb; obtain ⟨D0, e0, D1, e1, D5, e5, rfl⟩ := hq.open; have hq0 := Lib.hid hq; have hb5 := Lib.hid hb; have hz5 := (hb.block _ hzl).trans hz0'.out; obtain ⟨z0, z1, z2, z3, z4, z5⟩ := prog_cells hz5; have y0 := frozen0 hz5 0; have y1 := frozen0 hz5 1; have y2 := frozen0 hz5 2; have y3 := frozen0 hz5 3; have y4 := frozen0 hz5 4; have y5 := frozen0 hz5 5; have hgw : w.heap.size ≤ w'.heap.size := hx3.size; have hne : w.heap.size ≠ w'.heap.size := (by have := hx3.lt; omega); have hx6 := ((((((hx5.set hgw hne (k := 0) (.slice D0 q.ros.length e0)).set hgw hne (k := 1) (.slice D1 q.rub.length e1)).set hgw hne (k := 2) (.int .i64 q.start)).set hgw hne (k := 3) (.int .i64 q.throw)).set hgw hne (k := 4) (.int .i64 q.adv)).set hgw hne (k := 5) (.slice D5 q.shifts.length e5)); clear hb hq p0 p1 p2 p3 p4 p5; obtain ⟨p0, p1, p2, p3, p4, p5⟩ := hx5.prog; obtain ⟨o0, o1, o2, o3, o4, o5⟩ := hx6.prog))
    all_goals
      first
        | (
          have hxA : Box w w.heap.size (.cells #[.slice A0 p.ros.length c0, .slice A1 p.rub.length c1, .int .i64 p.start, .int .i64 p.throw, .int .i64 p.adv, .slice A5 p.shifts.length c5] 24) (w5.alloc (.cells #[.slice D0 q.ros.length e0, .slice D1 q.rub.length e1, .int .i64 q.start, .int .i64 q.throw, .int .i64 q.adv, .slice D5 q.shifts.length e5] 24)) := hx5.alloc _
          have hyA : (w5.alloc (.cells #[.slice D0 q.ros.length e0, .slice D1 q.rub.length e1, .int .i64 q.start, .int .i64 q.throw, .int .i64 q.adv, .slice D5 q.shifts.length e5] 24)).heap[w5.heap.size]? = some (.cells #[.slice D0 q.ros.length e0, .slice D1 q.rub.length e1, .int .i64 q.start, .int .i64 q.throw, .int .i64 q.adv, .slice D5 q.shifts.length e5] 24) := heap_alloc_new _ _
          have hqA := hq0.out.below (alc1 w5 (.cells #[.slice D0 q.ros.length e0, .slice D1 q.rub.length e1, .int .i64 q.start, .int .i64 q.throw, .int .i64 q.adv, .slice D5 q.shifts.length e5] 24))
          obtain ⟨Qb, hQb⟩ : ∃ x, w5.heap.size = x := ⟨_, rfl⟩
          rw [hQb] at hyA ⊢
          clear p0 p1 p2 p3 p4 p5
          rename_i hHeld
          clear hHeld
          generalize w5.alloc (.cells #[.slice D0 q.ros.length e0, .slice D1 q.rub.length e1, .int .i64 q.start, .int .i64 q.throw, .int .i64 q.adv, .slice D5 q.shifts.length e5] 24) = W6 at hxA hyA hqA ⊢
          clear hx5 hq0 hQQ hb5 hQb
          clear w5)
        | (
          have hxA := hx6
          have hyA : ((((((w5.setCell ⟨w'.heap.size, 0, none⟩ (.slice D0 q.ros.length e0)).setCell ⟨w'.heap.size, 1, none⟩ (.slice D1 q.rub.length e1)).setCell ⟨w'.heap.size, 2, none⟩ (.int .i64 q.start)).setCell ⟨w'.heap.size, 3, none⟩ (.int .i64 q.throw)).setCell ⟨w'.heap.size, 4, none⟩ (.int .i64 q.adv)).setCell ⟨w'.heap.size, 5, none⟩ (.slice D5 q.shifts.length e5)).heap[w'.heap.size]? = some (.cells #[.slice D0 q.ros.length e0, .slice D1 q.rub.length e1, .int .i64 q.start, .int .i64 q.throw, .int .i64 q.adv, .slice D5 q.shifts.length e5] 24) := (heap_setAt (i := 5) (u := .slice D5 q.shifts.length e5) (heap_setAt (i := 4) (u := .int .i64 q.adv) (heap_setAt (i := 3) (u := .int .i64 q.throw) (heap_setAt (i := 2) (u := .int .i64 q.start) (heap_setAt (i := 1) (u := .slice D1 q.rub.length e1) (heap_setAt (i := 0) (u := .slice D0 q.ros.length e0) hz5))))))
          have hqA : IsProg ((((((w5.setCell ⟨w'.heap.size, 0, none⟩ (.slice D0 q.ros.length e0)).setCell ⟨w'.heap.size, 1, none⟩ (.slice D1 q.rub.length e1)).setCell ⟨w'.heap.size, 2, none⟩ (.int .i64 q.start)).setCell ⟨w'.heap.size, 3, none⟩ (.int .i64 q.throw)).setCell ⟨w'.heap.size, 4, none⟩ (.int .i64 q.adv)).setCell ⟨w'.heap.size, 5, none⟩ (.slice D5 q.shifts.length e5)) _ q := hQQ.out ((((((w5.setCell ⟨w'.heap.size, 0, none⟩ (.slice D0 q.ros.length e0)).setCell ⟨w'.heap.size, 1, none⟩ (.slice D1 q.rub.length e1)).setCell ⟨w'.heap.size, 2, none⟩ (.int .i64 q.start)).setCell ⟨w'.heap.size, 3, none⟩ (.int .i64 q.throw)).setCell ⟨w'.heap.size, 4, none⟩ (.int .i64 q.adv)).setCell ⟨w'.heap.size, 5, none⟩ (.slice D5 q.shifts.length e5)) (fun k hk => by
            have hkn : k ≠ w'.heap.size := fun e => by subst e; simp [World.drew] at hk; omega
            iterate 5 refine (Below.heap_setCell _ _ _ _ hkn).trans ?_
            exact Below.heap_setCell _ _ _ _ hkn)
          obtain ⟨Qb, hQb⟩ : ∃ x, w'.heap.size = x := ⟨_, rfl⟩
          rw [hQb] at hxA hyA hqA ⊢
          clear p0 p1 p2 p3 p4 p5
          rename_i hHeld
          clear hHeld
          generalize ((((((w5.setCell ⟨Qb, 0, none⟩ (.slice D0 q.ros.length e0)).setCell ⟨Qb, 1, none⟩ (.slice D1 q.rub.length e1)).setCell ⟨Qb, 2, none⟩ (.int .i64 q.start)).setCell ⟨Qb, 3, none⟩ (.int .i64 q.throw)).setCell ⟨Qb, 4, none⟩ (.int .i64 q.adv)).setCell ⟨Qb, 5, none⟩ (.slice D5 q.shifts.length e5)) = W6 at hxA hyA hqA ⊢
          clear hx5 hx6 hq0 hQQ hb5 hz5 hne z0 z1 z2 z3 z4 z5 y0 y1 y2 y3 y4 y5 o0 o1 o2 o3 o4 o5
          clear w5)
    all_goals
      clear hx4 hx3 hz0' hzl
      have hxA' := Lib.hid hxA
      have hyA' := Lib.hid hyA
      have hqA' := Lib.hid hqA
      clear hqA hyA hxA
      have hbw := Below.refl W6.heap.size W6
      obtain ⟨p0, p1, p2, p3, p4, p5⟩ := (hxA'.out.next hbw).prog
      obtain ⟨q0, q1, q2, q3, q4, q5⟩ := prog_cells (blkNext hyA'.out hbw)
      go_upto_region 8 with (first | (go_at_call 22; (with_reducible refine (kck'.out _ _ (hqA'.out.below hbw)).mono ?_); rintro e w' ⟨rfl, hb⟩; replace hbw := hbw.trans (hb.mono hbw.size); clear hb p0 p1 p2 p3 p4 p5 q0 q1 q2 q3 q4 q5; obtain ⟨p0, p1, p2, p3, p4, p5⟩ := (hxA'.out.next hbw).prog; obtain ⟨q0, q1, q2, q3, q4, q5⟩ := prog_cells (blkNext hyA'.out hbw)) | (go_at_call 45; (with_reducible refine (ks1'.out _ _ _ (hp0.out.below (hxA'.out.next hbw).below) (hqA'.out.below hbw)).mono ?_); rintro e w' ⟨rfl, hb⟩; replace hbw := hbw.trans (hb.mono hbw.size); clear hb p0 p1 p2 p3 p4 p5 q0 q1 q2 q3 q4 q5; obtain ⟨p0, p1, p2, p3, p4, p5⟩ := (hxA'.out.next hbw).prog; obtain ⟨q0, q1, q2, q3, q4, q5⟩ := prog_cells (blkNext hyA'.out hbw)))
      have hzA : (w'.alloc (.cells #[.int .i64 xc, .int .i64 xt, .bool xm, .bool xb] 68)).heap[w'.heap.size]? = some (.cells #[.int .i64 xc, .int .i64 xt, .bool xm, .bool xb] 68) := heap_alloc_new _ _
      have hba := hbw.trans ((alc1 w' (.cells #[.int .i64 xc, .int .i64 xt, .bool xm, .bool xb] 68)).mono hbw.size)
      have hxB := hxA'.out.next hba
      have hyB := blkNext hyA'.out hba
      have hqB := hqA'.out.below hba
      obtain ⟨X, hX⟩ : ∃ X, w'.heap.size = X := ⟨_, rfl⟩
      rw [hX] at hzA ⊢
      clear hbw p0 p1 p2 p3 p4 p5 q0 q1 q2 q3 q4 q5 hxA' hyA' hqA' hba
      generalize w'.alloc (.cells #[.int .i64 xc, .int .i64 xt, .bool xm, .bool xb] 68) = W7 at hzA hxB hyB hqB ⊢
      have hxA' := Lib.hid hxB
      have hyA' := Lib.hid hyB
      have hqA' := Lib.hid hqB
      have hzA' := Lib.hid hzA
      clear hxB hyB hqB hzA hX
      have hbw := Below.refl W7.heap.size W7
      obtain ⟨p0, p1, p2, p3, p4, p5⟩ := (hxA'.out.next hbw).prog
      obtain ⟨q0, q1, q2, q3, q4, q5⟩ := prog_cells (blkNext hyA'.out hbw)
      obtain ⟨m0, m1, m2, m3⟩ := move_cells (blkNext hzA'.out hbw)
      go_upto_region 9 with (first | (go_at_call 45; (with_reducible refine (ks2'.out _ _ _ (hqA'.out.below hbw) (hp0.out.below (hxA'.out.next hbw).below)).mono ?_); rintro e w' ⟨rfl, hb⟩; replace hbw := hbw.trans (hb.mono hbw.size); clear hb p0 p1 p2 p3 p4 p5 q0 q1 q2 q3 q4 q5 m0 m1 m2 m3; obtain ⟨p0, p1, p2, p3, p4, p5⟩ := (hxA'.out.next hbw).prog; obtain ⟨q0, q1, q2, q3, q4, q5⟩ := prog_cells (blkNext hyA'.out hbw); obtain ⟨m0, m1, m2, m3⟩ := move_cells (blkNext hzA'.out hbw)))
      replace hbw := hbw.trans ((alc1 w' (.cells #[.int .i64 zc, .int .i64 zt, .bool zm, .bool zb] 68)).mono hbw.size)
      clear p0 p1 p2 p3 p4 p5 q0 q1 q2 q3 q4 q5 m0 m1 m2 m3
      generalize w'.alloc (.cells #[.int .i64 zc, .int .i64 zt, .bool zm, .bool zb] 68) = W8 at hbw ⊢
      obtain ⟨p0, p1, p2, p3, p4, p5⟩ := (hxA'.out.next hbw).prog
      obtain ⟨q0, q1, q2, q3, q4, q5⟩ := prog_cells (blkNext hyA'.out hbw)
      obtain ⟨m0, m1, m2, m3⟩ := move_cells (blkNext hzA'.out hbw)
      go_upto_region 11 with (first | (go_at_call 29; (with_reducible refine (kc1'.out _ _ (hp0.out.below (hxA'.out.next hbw).below)).mono ?_); rintro e w' ⟨rfl, hb⟩; replace hbw := hbw.trans (hb.mono hbw.size); clear hb p0 p1 p2 p3 p4 p5 q0 q1 q2 q3 q4 q5 m0 m1 m2 m3; obtain ⟨p0, p1, p2, p3, p4, p5⟩ := (hxA'.out.next hbw).prog; obtain ⟨q0, q1, q2, q3, q4, q5⟩ := prog_cells (blkNext hyA'.out hbw); obtain ⟨m0, m1, m2, m3⟩ := move_cells (blkNext hzA'.out hbw)) | (go_at_call 29; (with_reducible refine (kc2'.out _ _ (hqA'.out.below hbw)).mono ?_); rintro e w' ⟨rfl, hb⟩; replace hbw := hbw.trans (hb.mono hbw.size); clear hb p0 p1 p2 p3 p4 p5 q0 q1 q2 q3 q4 q5 m0 m1 m2 m3; obtain ⟨p0, p1, p2, p3, p4, p5⟩ := (hxA'.out.next hbw).prog; obtain ⟨q0, q1, q2, q3, q4, q5⟩ := prog_cells (blkNext hyA'.out hbw); obtain ⟨m0, m1, m2, m3⟩ := move_cells (blkNext hzA'.out hbw)))
      have hcx : xm = false ∨ xm = true ∧ (r1 == 0) = false := by
        cases hh : xm
        · exact .inl rfl
        · exact .inr ⟨rfl, hx1'.out hh⟩
      have hcy : xb = false ∨ xb = true ∧ (r2 == 0) = false := by
        cases hh : xb
        · exact .inl rfl
        · exact .inr ⟨rfl, hx2'.out hh⟩
      rcases hcx with rfl | ⟨rfl, hxw⟩
      all_goals
        rcases hcy with rfl | ⟨rfl, hyw⟩
        all_goals
          go_upto_region 13 with (fail)
          clear m0 m1 m2 m3
          go_upto_region 19 with (first | (go_at_call 33; (with_reducible refine (kk1'.out _ _ (hp0.out.below (hxA'.out.next hbw).below)).mono ?_); rintro e w' ⟨rfl, hb⟩; replace hbw := hbw.trans (hb.mono hbw.size); clear hb p0 p1 p2 p3 p4 p5 q0 q1 q2 q3 q4 q5; obtain ⟨p0, p1, p2, p3, p4, p5⟩ := (hxA'.out.next hbw).prog; obtain ⟨q0, q1, q2, q3, q4, q5⟩ := prog_cells (blkNext hyA'.out hbw)) | (go_at_call 33; (with_reducible refine (kk2'.out _ _ (hqA'.out.below hbw)).mono ?_); rintro e w' ⟨rfl, hb⟩; replace hbw := hbw.trans (hb.mono hbw.size); clear hb p0 p1 p2 p3 p4 p5 q0 q1 q2 q3 q4 q5; obtain ⟨p0, p1, p2, p3, p4, p5⟩ := (hxA'.out.next hbw).prog; obtain ⟨q0, q1, q2, q3, q4, q5⟩ := prog_cells (blkNext hyA'.out hbw)) | (go_at_call 31; (with_reducible refine (km1'.out _ _ (hp0.out.below (hxA'.out.next hbw).below)).mono ?_); rintro e w' ⟨rfl, hb⟩; replace hbw := hbw.trans (hb.mono hbw.size); clear hb p0 p1 p2 p3 p4 p5 q0 q1 q2 q3 q4 q5; obtain ⟨p0, p1, p2, p3, p4, p5⟩ := (hxA'.out.next hbw).prog; obtain ⟨q0, q1, q2, q3, q4, q5⟩ := prog_cells (blkNext hyA'.out hbw)) | (go_at_call 31; (with_reducible refine (km2'.out _ _ (hqA'.out.below hbw)).mono ?_); rintro e w' ⟨rfl, hb⟩; replace hbw := hbw.trans (hb.mono hbw.size); clear hb p0 p1 p2 p3 p4 p5 q0 q1 q2 q3 q4 q5; obtain ⟨p0, p1, p2, p3, p4, p5⟩ := (hxA'.out.next hbw).prog; obtain ⟨q0, q1, q2, q3, q4, q5⟩ := prog_cells (blkNext hyA'.out hbw)) | (go_at_call 16; (with_reducible refine (klift'.out _ _ (hp0.out.below (hxA'.out.next hbw).below)).mono ?_); rintro e w' ⟨vl, rfl, hb, hli⟩; have hli' := Lib.hid hli; clear hli; replace hbw := hbw.trans (hb.mono hbw.size); clear hb p0 p1 p2 p3 p4 p5 q0 q1 q2 q3 q4 q5; obtain ⟨p0, p1, p2, p3, p4, p5⟩ := (hxA'.out.next hbw).prog; obtain ⟨q0, q1, q2, q3, q4, q5⟩ := prog_cells (blkNext hyA'.out hbw)) | (go_at_call 42; (with_reducible refine (kper'.out _ _ hli'.out).mono ?_); rintro e w' ⟨rfl, hb⟩; replace hbw := hbw.trans (hb.mono hbw.size); clear hb p0 p1 p2 p3 p4 p5 q0 q1 q2 q3 q4 q5; obtain ⟨p0, p1, p2, p3, p4, p5⟩ := (hxA'.out.next hbw).prog; obtain ⟨q0, q1, q2, q3, q4, q5⟩ := prog_cells (blkNext hyA'.out hbw)))
          rcases htc'.out with htu | ⟨htu, htm⟩
          all_goals
            go_upto_region 23 with (first | (go_at_call 35; (with_reducible refine (kg1'.out _ _ (hp0.out.below (hxA'.out.next hbw).below)).mono ?_); rintro e w' ⟨rfl, hb⟩; replace hbw := hbw.trans (hb.mono hbw.size); clear hb p0 p1 p2 p3 p4 p5 q0 q1 q2 q3 q4 q5; obtain ⟨p0, p1, p2, p3, p4, p5⟩ := (hxA'.out.next hbw).prog; obtain ⟨q0, q1, q2, q3, q4, q5⟩ := prog_cells (blkNext hyA'.out hbw)) | (go_at_call 35; (with_reducible refine (kg2'.out _ _ (hqA'.out.below hbw)).mono ?_); rintro e w' ⟨rfl, hb⟩; replace hbw := hbw.trans (hb.mono hbw.size); clear hb p0 p1 p2 p3 p4 p5 q0 q1 q2 q3 q4 q5; obtain ⟨p0, p1, p2, p3, p4, p5⟩ := (hxA'.out.next hbw).prog; obtain ⟨q0, q1, q2, q3, q4, q5⟩ := prog_cells (blkNext hyA'.out hbw)))
            rcases hgc'.out with hg | ⟨hg, hr⟩
            all_goals
              go_wp2
              go_ret
              exact ⟨rfl, (hxA'.out.next hbw).below⟩
theorem law_PatternChanged (a0 : Prog) (x0 : Value) (a1 a2 a3 a4 : Int) (w : World) (w0 : IsProg w x0 a0 ∧ a0.fits) (w1 : (Lit.int .u8 a1).wf = true) (w2 : (Lit.int .u8 a2).wf = true) (w3 : (Lit.int .u8 a3).wf = true) (w4 : (Lit.int .u8 a4).wf = true) :
    Calls Try.prog 13 #[x0, .int .u8 a1, .int .u8 a2, .int .u8 a3, .int .u8 a4] w fun e w' => e = .returned (.bool true) ∧ Below w.heap.size w w' := by
  have k : ∀ a : Int, (Lit.int .u8 a).wf = true → 0 ≤ a ∧ a ≤ 255 := fun a h => by
    have h1' : IntKind.u8.min ≤ a ∧ a ≤ IntKind.u8.max := by simpa [Lit.wf] using h
    exact h1'
  have h1 := k a1 w1
  have h2 := k a2 w2
  have h3 := k a3 w3
  have h4 := k a4 w4
  obtain ⟨b1, rfl⟩ : ∃ sn : Nat, a1 = sn := ⟨a1.toNat, by omega⟩
  obtain ⟨b2, rfl⟩ : ∃ sn : Nat, a2 = sn := ⟨a2.toNat, by omega⟩
  obtain ⟨b3, rfl⟩ : ∃ sn : Nat, a3 = sn := ⟨a3.toNat, by omega⟩
  obtain ⟨b4, rfl⟩ : ∃ sn : Nat, a4 = sn := ⟨a4.toNat, by omega⟩
  exact walk_PatternChanged a0 x0 b1 b2 b3 b4 w w0.1 (by omega) (by omega) (by omega) (by omega)
end Go.Proofs.Ytnboppombhibbaa
