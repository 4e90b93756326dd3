/- The heads at work, one by one: read.mounts and its iterator. What is found, one by one: read.found and its iterator. -/
import Derived.Test.YtphdalgaemefoaaGreatRdTag
import Derived.Test.YtphdalgaemefoaaGreatRdMount
import Derived.Test.YtphdalgaemefoaaGreatRdStaP
namespace Go.Proofs.YtphdalgaemefoaaGreat
set_option maxRecDepth 100000
set_option maxHeartbeats 1000000
open Go.RowKit Go.Shelf
set_option linter.unusedVariables false
set_option linter.unusedSimpArgs false
attribute [local go_sem] Oper.semAt_some
theorem grown_of_below {W W' : World} (h : Below W.heap.size W W') : W.grownBy W' none := ⟨h.os, h.tape, h.output, h.size, fun k hk _ => h.block k hk⟩
theorem OwnFrom.later {β : Type} {B : Nat} {I : β → World → Prop} (h : OwnFrom B I) {s : β} {W W' : World} (hs : I s W) (hb : Below W.heap.size W W') : I s W' := h s W W' none hs (grown_of_below hb) (fun r e => by cases e)
def mtsH (p : Pic) (k : Nat) : List (Nat × Int) := (List.range k).flatMap fun h => (upTo p.tl p.th).map fun t => (h, t)
def mtsL (p : Pic) : List (Nat × Int) := mtsH p p.hs.length
def thrN (p : Pic) (k j : Nat) : List (Nat × Int) := (List.range j).map fun (i : Nat) => (k, p.tl + (i : Int))
theorem mtsH_zero (p : Pic) : mtsH p 0 = [] := rfl
theorem thrN_zero (p : Pic) (k : Nat) : thrN p k 0 = [] := rfl
theorem thrN_succ (p : Pic) (k j : Nat) : thrN p k (j + 1) = thrN p k j ++ [(k, p.tl + (j : Int))] := by unfold thrN; rw [List.range_succ, List.map_append]; rfl
theorem mtsH_succ (p : Pic) (k : Nat) : mtsH p (k + 1) = mtsH p k ++ thrN p k (p.th - p.tl + 1).toNat := by
 unfold mtsH
 rw [List.range_succ, List.flatMap_append, List.flatMap_singleton]
 unfold thrN upTo
 rw [List.map_map]
 rfl
theorem mtsH_mono (p : Pic) {a b : Nat} (h : a ≤ b) : mtsH p a <+: mtsH p b := by
 induction h with
 | refl => exact List.prefix_rfl
 | step _ ih => exact ih.trans (by rw [mtsH_succ]; exact List.prefix_append _ _)
theorem thrN_mono (p : Pic) (k : Nat) {a b : Nat} (h : a ≤ b) : thrN p k a <+: thrN p k b := by
 induction h with
 | refl => exact List.prefix_rfl
 | step _ ih => exact ih.trans (by rw [thrN_succ]; exact List.prefix_append _ _)
theorem mts_pre (p : Pic) {k j : Nat} (hk : k < p.hs.length) (hj : j ≤ (p.th - p.tl + 1).toNat) : mtsH p k ++ thrN p k j <+: mtsL p := by
 have h1 : mtsH p k ++ thrN p k j <+: mtsH p (k + 1) := by rw [mtsH_succ, List.prefix_append_right_inj]; exact thrN_mono p k hj
 exact h1.trans (mtsH_mono p hk)
def mtK (x : Nat × Int × Nat) : Nat × Int := (x.1, x.2.1)
def mtEnc (x : Nat × Int × Nat) : Array Value := #[.agg #[.int .i64 (x.1 : Int), .int .i64 x.2.1, .map (some x.2.2)]]
def MtG (p : Pic) (z : Nat) (pre : List (Nat × Int × Nat)) (x : Nat × Int × Nat) (W : World) : Prop := pre.map mtK ++ [mtK x] <+: mtsL p ∧ (x.1 < p.hs.length ∧ p.tl ≤ x.2.1 ∧ x.2.1 ≤ p.th) ∧ z ≤ x.2.2 ∧ ∃ n D bl Z, n ≤ 60 ∧ Bases W x.2.2 n D bl Z p.steps (hasC p.rds) (rowS p.rds (p.lift x.1) x.2.1 p.steps)
theorem mounts1_yields (p : Pic) (v : Value) (cs : Array Value) (w0 w : World) (Bp n₀ : Nat) (hp : IsPic w0 v p) (hok : PicM p) (h0 : w0.heap.size ≤ n₀) (hn₀ : n₀ ≤ w.heap.size) (hb : Below w0.heap.size w0 w) (hv : v = .agg cs) (hB : w.heap[Bp]? = some (.cells cs 25)) :
  SeqO Fence.wide 3 Tryz.prog 65 #[.pointer (some ⟨Bp, 0, none⟩)] mtEnc (MtG p w.heap.size) (KeepT n₀) (fun xs => xs.map mtK = mtsL p) (fun pre => pre.map mtK <+: mtsL p) (mtsL p).length w := by
 intro l J Jx W hW hJo hJxo hY hJ0
 have hbW : Below w0.heap.size w0 W := hb.trans (hW.mono (Nat.le_trans h0 hn₀))
 have hnW : n₀ ≤ W.heap.size := Nat.le_trans hn₀ hW.size
 have kB := (hW.block _ (gsl hB)).trans hB
 have hzW := hW.size
 obtain ⟨vh, vr, rfl, hh, hr⟩ := id hp
 injection hv with hv
 subst hv
 obtain ⟨HA, hc, rfl, hhl⟩ := hh.slice
 obtain ⟨RA, rc, rfl, hrl⟩ := hr.slice
 have hpos := hok.heads
 have htl := hok.tl
 have hth := hok.th
 have hle := hok.tle
 obtain ⟨N, hN⟩ : ∃ N, (p.th - p.tl + 1).toNat = N := ⟨_, rfl⟩
 have hN2 : p.tl + (N : Int) = p.th + 1 := by omega
 have hpre : ∀ k j : Nat, k < p.hs.length → j ≤ N → mtsH p k ++ thrN p k j <+: mtsL p := fun k j hk hj => mts_pre p hk (by rw [hN]; exact hj)
 have hsucc := fun k => mtsH_succ p k
 rw [hN] at hsucc
 obtain ⟨c0, c1, c2, c3, c4, c5⟩ := pc6 kB
 have ⟨hp', hok', hb', hB', hW', hJo', hJxo', hY'⟩ := hyd8 hp hok hb hB hW hJo hJxo hY
 have ⟨hbW', kB', hh', hr', hpre', hsucc', hN'⟩ := hyd7 hbW kB hh hr hpre hsucc hN
 clear hN hsucc hpre hr hh kB hbW hY hJxo hJo hW hB hb hok hp
 refine callsIn_of_wp Tryz.func65 rfl trivial ?_ rfl
 simp only [Tryz.ntmps65, List.size_toArray, List.length_cons, List.length_nil, Nat.reduceAdd, Nat.reduceSub, Array.replicate_succ, Array.replicate_zero, List.push_toArray, List.append_toArray, List.nil_append, List.cons_append]
 gi_wp2
 clear c0 c1 c2 c3 c4 c5
 gi_loopw [8] (fun ix wr => ∃ (k : Nat) (pre : List (Nat × Int × Nat)), k ≤ p.hs.length ∧ ix = .int .i64 (k : Int) ∧ Hid (pre.map mtK = mtsH p k) ∧ Hid (J pre wr ∧ KeepT n₀ W wr)) (fun ix _ => p.hs.length - (intOf ix).toNat)
 case atStart => exact ⟨0, [], Nat.zero_le _, rfl, Lib.hid rfl, Lib.hid ⟨hJ0, KeepT.refl _ _⟩⟩
 case round =>
  obtain ⟨k, pre, hk, rfl, hpr, hJs⟩ := hrel
  obtain ⟨hJr, hKr⟩ := hJs.out
  by_cases hlt : k < p.hs.length
  ·obtain ⟨c0, c1, c2, c3, c4, c5⟩ := pc6 (hKr.tag _ _ _ kB'.out (.inr (.inr (.inl rfl))))
   have jlt : (k : Int) < (p.hs.length : Int) := by omega
   have hI0 : (pre.map mtK = mtsH p k ++ thrN p k 0) := by rw [thrN_zero, List.append_nil]; exact hpr.out
   have ⟨hJs', hJr', hKr', hpr', hI0'⟩ := hyd5 hJs hJr hKr hpr hI0
   clear hI0 hpr hKr hJr hJs
   gi_wp2
   clear c0 c1 c2 c3 c4 c5
   gi_loopw [4] (fun tx wv => ∃ (j : Nat) (pre2 : List (Nat × Int × Nat)), j ≤ N ∧ tx = .int .i64 (p.tl + (j : Int)) ∧ Hid (pre2.map mtK = mtsH p k ++ thrN p k j) ∧ Hid (J pre2 wv ∧ KeepT n₀ W wv)) (fun tx _ => N - (intOf tx - p.tl).toNat)
   case atStart => exact ⟨0, pre, Nat.zero_le _, by go_num, hI0', Lib.hid ⟨hJr'.out, hKr'.out⟩⟩
   case round =>
    obtain ⟨j, pre2, hj, rfl, hpr2, hJs2⟩ := hrel
    obtain ⟨hJr2, hKr2⟩ := hJs2.out
    have kBv := hKr2.tag _ _ _ kB'.out (.inr (.inr (.inl rfl)))
    obtain ⟨c0, c1, c2, c3, c4, c5⟩ := pc6 kBv
    by_cases hlj : j < N
    ·have jle : p.tl + (j : Int) ≤ p.th := by omega
     have kmt := pf_rd_mounted _ p k (p.tl + (j : Int)) wr (hp'.out.le (hbW'.out.trans (hKr2.below.mono h0))) hok'.out hlt ⟨by omega, by omega⟩
     have hnx : pre2.map mtK ++ [(k, p.tl + (j : Int))] <+: mtsL p := by rw [hpr2.out, List.append_assoc, ← thrN_succ]; exact hpre'.out k (j + 1) hlt hlj
     have hlen : pre2.length < (mtsL p).length := by have := hnx.length_le; simp at this; omega
     have hpr3 : ∀ x : Nat × Int × Nat, mtK x = (k, p.tl + (j : Int)) → (pre2 ++ [x]).map mtK = mtsH p k ++ thrN p k (j + 1) := fun x hx => by rw [List.map_append, hpr2.out, thrN_succ, List.append_assoc, List.map_singleton, hx]
     have hzr := hKr2.below.size
     have ⟨kmt', hJs2', hJr2', hKr2', hpr2', hnx', hpr3', kBv'⟩ := hyd8 kmt hJs2 hJr2 hKr2 hpr2 hnx hpr3 kBv
     clear kBv hpr3 hnx hpr2 hKr2 hJr2 hJs2 kmt
     gi_wp2_with (first | (refine ⟨trivial, ?_⟩; gi_at_call 49; refine (callsIn_wide.2 (kmt'.out)).mono ?_; rintro e w' ⟨Bm, n, D, bl, Z, rfl, hb3, hn60, hBs, hfr⟩; (obtain ⟨fn, tmps, assign, body, hy, hR⟩ := hY'.out pre2 (k, p.tl + (j : Int), Bm) w' (OwnFrom.later (I := J) hJo'.out hJr2'.out hb3) ⟨hnx'.out, ⟨hlt, (by show p.tl ≤ p.tl + (j : Int); omega), (by show p.tl + (j : Int) ≤ p.th; omega)⟩, (by show w.heap.size ≤ Bm; omega), n, D, bl, Z, hn60, hBs⟩ hlen); dsimp only [mtEnc] at hy))
     have hK9 : KeepT n₀ wr w' := KeepT.fresh hb3 (by omega)
     have ⟨hb3', hBs', hK9'⟩ := hyd3 hb3 hBs hK9
     clear hK9 hBs hb3
     refine hR.mono ?_
     rintro e W3 ⟨hkf, (⟨rfl, hJ3, hk3⟩ | ⟨rfl, hJx3⟩)⟩
     ·have hKn := (hKr2'.out.trans hK9'.out).trans hk3
      have ⟨hkf', hJ3', hk3', hKn'⟩ := hyd4 hkf hJ3 hk3 hKn
      clear hKn hk3 hJ3 hkf
      gi_wp2
      go_roundw
      case rel => exact ⟨j + 1, _, by omega, by go_num, Lib.hid (hpr3'.out _ rfl), Lib.hid ⟨hJ3'.out, hKn'.out⟩⟩
      case measure => simp [intOf]; omega
     ·have ⟨hkf', hJx3'⟩ := hyd2 hkf hJx3
      clear hJx3 hkf
      gi_wp2
      refine bodyPost_ret (results_none rfl _ _ _) rfl ?_
      exact ⟨⟨_, rfl⟩, .inr ⟨_, by rw [List.map_append]; exact hnx'.out, hJx3'.out⟩⟩
    ·obtain rfl : j = N := by omega
     have jle : ¬ p.tl + (j : Int) ≤ p.th := by omega
     have hI1 : pre2.map mtK = mtsH p (k + 1) := by rw [hsucc'.out]; exact hpr2.out
     have ⟨hJs2', hJr2', hKr2', hpr2', kBv', hI1'⟩ := hyd6 hJs2 hJr2 hKr2 hpr2 kBv hI1
     clear hI1 kBv hpr2 hKr2 hJr2 hJs2
     gi_wp2
     go_roundw
     case rel => exact ⟨k + 1, pre2, by omega, by go_num, hI1', Lib.hid ⟨hJr2'.out, hKr2'.out⟩⟩
     case measure => simp [intOf]; omega
  ·obtain rfl : k = p.hs.length := by omega
   have hS := hpr.out
   have ⟨hJs', hJr', hKr', hpr', hS'⟩ := hyd5 hJs hJr hKr hpr hS
   clear hS hpr hKr hJr hJs
   gi_wp2
   go_end0
   exact ⟨⟨_, rfl⟩, .inl ⟨pre, hS'.out, hJr'.out⟩⟩
theorem pf_rd_mounts (v : Value) (cs : Array Value) (w : World) (hv : v = .agg cs) (hs : cs.size = 6) :
  Calls Tryz.prog 46 #[v] w fun e w' => e = .returned (.func (.func 65) #[] #[.pointer (some ⟨w.heap.size, 0, none⟩)]) ∧ w.alloc (.cells cs 25) = w' := by
 have hmf : ∀ (fn : Fn) (first cap : Array Value) (w : World), (Instr.makeFunc fn first cap).run Tryz.prog w = .ok (.func fn first cap) w := fun _ _ _ _ => rfl
 obtain ⟨l, rfl⟩ : ∃ l : List Value, cs = l.toArray := ⟨cs.toList, by simp⟩
 obtain ⟨a0, a1, a2, a3, a4, a5, rfl⟩ : ∃ a0 a1 a2 a3 a4 a5, l = [a0, a1, a2, a3, a4, a5] := by
  match l, hs with
  | [a0, a1, a2, a3, a4, a5], _ => exact ⟨_, _, _, _, _, _, rfl⟩
 subst hv
 go_enter Tryz.func46, Tryz.ntmps46
 go_wp2
 go_ret
 exact ⟨rfl, rfl⟩
end Go.Proofs.YtphdalgaemefoaaGreat
namespace Go.Proofs.YtphdalgaemefoaaGreat
set_option maxRecDepth 100000
set_option maxHeartbeats 1000000
open Go.RowKit Go.Shelf
set_option linter.unusedVariables false
set_option linter.unusedSimpArgs false
attribute [local go_sem] Oper.semAt_some
def fndM (p : Pic) (ms : List (Nat × Int)) : List Fnd := ms.flatMap fun m => (upTo p.al p.ah).flatMap fun a => foundA p m.1 m.2 a
def advN (p : Pic) (m : Nat) (t : Int) (j : Nat) : List Fnd := (List.range j).flatMap fun (i : Nat) => foundA p m t (p.al + (i : Int))
theorem fndM_nil (p : Pic) : fndM p [] = [] := rfl
theorem fndM_snoc (p : Pic) (ms : List (Nat × Int)) (m : Nat) (t : Int) : fndM p (ms ++ [(m, t)]) = fndM p ms ++ advN p m t (p.ah - p.al + 1).toNat := by
 unfold fndM
 rw [List.flatMap_append, List.flatMap_singleton]
 unfold advN upTo
 rw [List.flatMap_map]
theorem advN_succ (p : Pic) (m : Nat) (t : Int) (j : Nat) : advN p m t (j + 1) = advN p m t j ++ foundA p m t (p.al + (j : Int)) := by unfold advN; rw [List.range_succ, List.flatMap_append, List.flatMap_singleton]
theorem advN_mono (p : Pic) (m : Nat) (t : Int) {a b : Nat} (h : a ≤ b) : advN p m t a <+: advN p m t b := by
 induction h with
 | refl => exact List.prefix_rfl
 | step _ ih => exact ih.trans (by rw [advN_succ]; exact List.prefix_append _ _)
theorem fndM_all (p : Pic) : fndM p (mtsL p) = foundL p := by
 unfold fndM mtsL mtsH foundL
 rw [List.flatMap_assoc]
 congr 1
 funext h
 rw [List.flatMap_map]
theorem fndM_pre (p : Pic) {a b : List (Nat × Int)} (h : a <+: b) : fndM p a <+: fndM p b := by
 obtain ⟨c, rfl⟩ := h
 unfold fndM
 rw [List.flatMap_append]
 exact List.prefix_append _ _
theorem fnd_at (p : Pic) {ms : List (Nat × Int)} {m : Nat} {t : Int} (h : ms ++ [(m, t)] <+: mtsL p) {j : Nat} (hj : j < (p.ah - p.al + 1).toNat) (i : Nat) : fndM p ms ++ advN p m t j ++ (foundA p m t (p.al + (j : Int))).take i <+: foundL p := by
 have h1 := fndM_pre p h
 rw [fndM_all, fndM_snoc] at h1
 refine List.IsPrefix.trans ?_ h1
 rw [List.append_assoc, List.prefix_append_right_inj]
 refine List.IsPrefix.trans ?_ (advN_mono p m t hj)
 rw [advN_succ, List.prefix_append_right_inj]
 exact List.take_prefix _ _
theorem foundA_length (p : Pic) (m : Nat) (t a : Int) : (foundA p m t a).length = (fitL p.rds (p.lift m) t a).length := by unfold foundA; simp
theorem foundA_get (p : Pic) (m : Nat) (t a : Int) {i : Nat} (h : i < (fitL p.rds (p.lift m) t a).length) : (foundA p m t a)[i]? = some ⟨m, t, a, (fitL p.rds (p.lift m) t a)[i].1, (fitL p.rds (p.lift m) t a)[i].2⟩ := by unfold foundA; simp [h]
theorem foundA_take (p : Pic) (m : Nat) (t a : Int) {i : Nat} (h : i < (fitL p.rds (p.lift m) t a).length) : (foundA p m t a).take (i + 1) = (foundA p m t a).take i ++ [⟨m, t, a, (fitL p.rds (p.lift m) t a)[i].1, (fitL p.rds (p.lift m) t a)[i].2⟩] := by
 rw [List.take_add_one, foundA_get p m t a h]
 rfl
def fnArg (f : Fnd) : Array Value := #[fndV f]
theorem frame_mkS (F : (Nat → Value) → Array Value) (t : Array Value) (h : t = F (fun i => t.getD i undef)) : ∃ u, t = F u := ⟨_, h⟩
def FnI (p : Pic) (n₀ : Nat) (J : List Fnd → World → Prop) (Wr : World) (pre : List (Nat × Int × Nat)) (W : World) : Prop := J (fndM p (pre.map mtK)) W ∧ KeepT n₀ Wr W
def FnX (p : Pic) (Jx : List Fnd → World → Prop) (c : Code) (pre : List (Nat × Int × Nat)) (W : World) : Prop := c = .ret ∧ ∃ ys, Jx ys W ∧ ys <+: foundL p ∧ ys ≠ []
def FnA (p : Pic) (Bp Yb z : Nat) (Wr : World) (pre : List (Nat × Int × Nat)) (x : Nat × Int × Nat) (a : Act) (W : World) : Prop := ∃ (u : Nat → Value) (Bx : Nat), a = { tmps := #[(u 0), .pointer (some ⟨Bp, 0, none⟩), .pointer (some ⟨Yb, 0, none⟩), .pointer (some ⟨Bx, 0, none⟩), (u 4), (u 5), (u 6), (u 7), (u 8), (u 9), (u 10), (u 11), (u 12), (u 13), (u 14), (u 15), (u 16), (u 17), (u 18), (u 19), (u 20), (u 21), (u 22), (u 23), (u 24), (u 25), (u 26), (u 27), (u 28), (u 29), (u 30), (u 31), (u 32), (u 33), (u 34), (u 35), (u 36), (u 37), (u 38), (u 39)], defers := [] } ∧ Wr.heap.size ≤ Bx ∧ W.heap[Bx]? = some (.cells #[.int .i64 (x.1 : Int), .int .i64 x.2.1, .map (some x.2.2)] 97) ∧ MtG p z pre x W
theorem Bases.turn {w : World} {B n r : Nat} {D : DataW Unit} {bl : Int → Nat} {Z len : Nat} {cs : Int → Bool} {row : Int → List Spn} (h : Bases w B n D bl Z len cs row) {o : Loop} (hr : w.heap[r]? = some (.loop o)) (o' : Obj) : Bases (w.putObj r o') B n D bl Z len cs row := by
 refine ⟨?_, h.has, h.wf, h.get, fun c hc => ⟨(h.blk c hc).1, (World.putObj_heap_other (fun e => by have := (h.blk c hc).2; rw [e, hr] at this; cases this)).trans (h.blk c hc).2⟩, h.len, h.apart⟩
 obtain ⟨es, cl, h1, h2⟩ := h.own
 exact ⟨es, cl, (World.putObj_heap_other (fun e => by rw [e, hr] at h1; cases h1)).trans h1, h2⟩
theorem FnA.turn {p : Pic} {Bp Yb z : Nat} {Wr : World} {pre : List (Nat × Int × Nat)} {x : Nat × Int × Nat} {a : Act} {W : World} {r : Nat} {o : Loop} (o' : Obj) (h : FnA p Bp Yb z Wr pre x a W) (hr : W.heap[r]? = some (.loop o)) : FnA p Bp Yb z Wr pre x a (W.putObj r o') := by
 obtain ⟨u, Bx, h1, h2, h3, h0, h4, h5, n, D, bl, Z, h6, h7⟩ := h
 exact ⟨u, Bx, h1, h2, (World.putObj_heap_other (fun e => by rw [e, hr] at h3; cases h3)).trans h3, h0, h4, h5, n, D, bl, Z, h6, h7.turn hr o'⟩
theorem found1_yields (hun : ∀ (v : Value) (L : List Spn) (W : World), SpnL W v L → 0 < L.length → L.length ≤ 10000 → SpB L → Calls Tryz.prog 67 #[v] W fun e w' => ∃ v', e = .returned v' ∧ Below W.heap.size W w' ∧ SpnL w' v' (normL L))
  (p : Pic) (v : Value) (cs : Array Value) (w0 w : World) (Bp n₀ : Nat) (hp : IsPic w0 v p) (hok : PicM p) (hst : p.steps ≤ 24) (h0 : w0.heap.size ≤ n₀) (hn₀ : n₀ ≤ w.heap.size) (hb : Below w0.heap.size w0 w) (hv : v = .agg cs) (hB : w.heap[Bp]? = some (.cells cs 25)) :
  SeqO Fence.wide 4 Tryz.prog 45 #[.pointer (some ⟨Bp, 0, none⟩)] fnArg (fun pre x _ => pre ++ [x] <+: foundL p) (KeepT n₀) (fun xs => xs = foundL p) (fun pre => pre <+: foundL p ∧ pre ≠ []) (foundL p).length w := by
 intro l J Jx W hW hJo hJxo hY hJ0
 have hbW : Below w0.heap.size w0 W := hb.trans (hW.mono (Nat.le_trans h0 hn₀))
 have hnW : n₀ ≤ W.heap.size := Nat.le_trans hn₀ hW.size
 have kB := (hW.block _ (gsl hB)).trans hB
 obtain ⟨vh, vr, rfl, hh, hr⟩ := id hp
 injection hv with hv
 subst hv
 obtain ⟨HA, hc, rfl, hhl⟩ := hh.slice
 obtain ⟨RA, rc, rfl, hrl⟩ := hr.slice
 obtain ⟨W1, hW1, hb1, k1⟩ := newb W (.cells #[.func (.yield l) #[] #[]] 91)
 obtain ⟨c0, c1, c2, c3, c4, c5⟩ := pc6 (blk hb1 kB)
 have y0 := cellOne k1
 have kms := fun W => pf_rd_mounts (.agg #[.slice HA p.hs.length hc, .int .i64 p.tl, .int .i64 p.th, .int .i64 p.al, .int .i64 p.ah, .slice RA p.rds.length rc]) _ W rfl rfl
 have ⟨hp', hok', hb', hB', hW', hJo', hJxo', hY'⟩ := hyd8 hp hok hb hB hW hJo hJxo hY
 have ⟨hbW', kB', hh', hr', hb1', k1', hJ0'⟩ := hyd7 hbW kB hh hr hb1 k1 hJ0
 clear hJ0 k1 hb1 hr hh kB hbW hY hJxo hJo hW hB hb hok hp
 refine callsIn_of_wp_marks Tryz.func45 rfl trivial ?_ rfl
 simp only [Tryz.ntmps45, List.size_toArray, List.length_cons, List.length_nil, Nat.reduceAdd, Nat.reduceSub, Array.replicate_succ, Array.replicate_zero, List.push_toArray, List.append_toArray, List.nil_append, List.cons_append]
 gi_wp2_with (first | (refine ⟨trivial, ?_⟩; gi_at_call 46; refine (callsIn_wide.2 (kms _)).mono ?_; rintro e w' ⟨rfl, rfl⟩))
 obtain ⟨W2, hW2, hb2, k2⟩ := newb W1 (.cells #[.slice HA p.hs.length hc, .int .i64 p.tl, .int .i64 p.th, .int .i64 p.al, .int .i64 p.ah, .slice RA p.rds.length rc] 25)
 rw [hW2]
 clear hW2 c0 c1 c2 c3 c4 c5 y0
 have hb12 := bel_set hb1'.out hb2
 have hz2 : W.heap.size ≤ W2.heap.size := hb12.size
 have hbW2 := bel_set hbW'.out hb12
 have kB2 := blk hb12 kB'.out
 have kY2 := blk hb2 k1'.out
 have hms := mounts1_yields p _ _ w0 W2 W1.heap.size n₀ hp'.out hok'.out h0 (by omega) hbW2 rfl k2
 have ⟨hb2', k2', hb12', hbW2', kB2', kY2'⟩ := hyd6 hb2 k2 hb12 hbW2 kB2 kY2
 clear kY2 kB2 hbW2 hb12 k2 hb2
 refine wpIn_rangeFunc_ownO rfl (by omega) (gf := 65) (lb := #[.pointer (some ⟨W1.heap.size, 0, none⟩)]) rfl trivial (enters_of Tryz.func65 (by kernel_rfl) rfl)
  hms KeepT.trans (fun V l o o' hl h hc _ => KeepT.put o' (by omega) h hc) (Below.refl _ _) (fun _ => rfl)
  (FnI p n₀ J W2) (FnX p Jx) (fun s A B row hs hg hr => ⟨OwnFrom.wider (I := J) hJo'.out hz2 _ A B row hs.1 hg hr, ownFrom_keepT (w := W2) (by omega) (by omega) s A B row hs.2 hg hr⟩)
  (fun c s A B row hs hg hr => by obtain ⟨e, ys, h1, h2⟩ := hs; exact ⟨e, ys, OwnFrom.wider (I := Jx) hJxo'.out hz2 _ A B row h1 hg hr, h2⟩)
  ⟨OwnFrom.later (I := J) hJo'.out hJ0'.out hb12'.out, KeepT.refl _ _⟩ (FnA p Bp W.heap.size W2.heap.size W2) (fun pre x a' V o o' h hr => h.turn o' hr) ?assign ?body ?done ?stop
 case assign =>
  intro la pre x V K hI hG hK
  dsimp only [mtEnc]
  gi_wp2
  have hbV : Below V.heap.size V (V.alloc (.cells #[.int .i64 (x.1 : Int), .int .i64 x.2.1, .map (some x.2.2)] 97)) := (Below.refl _ V).alloc (Nat.le_refl _) _
  have hzV := hI.2.below.size
  obtain ⟨g0, g1, g2, n, D, bl, Z, g3, g4⟩ := hG
  refine hK _ _ ((KeepsOthers.alloc _ _).from _) (KeepT.fresh hbV (by omega)) ⟨OwnFrom.later (I := J) hJo'.out hI.1 hbV, hI.2.trans (KeepT.fresh hbV (by omega))⟩ ?_
  obtain ⟨u, hu⟩ := frame_mkS (fun u : Nat → Value => #[(u 0), .pointer (some ⟨Bp, 0, none⟩), .pointer (some ⟨W.heap.size, 0, none⟩), .pointer (some ⟨V.heap.size, 0, none⟩), (u 4), (u 5), (u 6), (u 7), (u 8), (u 9), (u 10), (u 11), (u 12), (u 13), (u 14), (u 15), (u 16), (u 17), (u 18), (u 19), (u 20), (u 21), (u 22), (u 23), (u 24), (u 25), (u 26), (u 27), (u 28), (u 29), (u 30), (u 31), (u 32), (u 33), (u 34), (u 35), (u 36), (u 37), (u 38), (u 39)]) _ (by kernel_rfl)
  exact ⟨u, V.heap.size, congrArg (fun t => ({ tmps := t, defers := [] } : Act)) hu, by omega, heap_alloc_new _ _, g0, g1, g2, n, D, bl, Z, g3, g4.le hbV⟩
 case body =>
  intro la pre x a' V hI hA hlen
  obtain ⟨hJV, hKV⟩ := hI
  obtain ⟨u, Bx, rfl, hBx, kx, hpx, ⟨hm, ht1, ht2⟩, hzx, n, D, bl, Z, hn60, hBs⟩ := hA
  obtain ⟨m, t, BM⟩ := x
  dsimp only at kx hm ht1 ht2 hzx hBs
  have hzV := hKV.below.size
  have kBV := hKV.tag _ _ _ kB2'.out (.inr (.inr (.inl rfl)))
  have kYV := hKV.tag _ _ _ kY2'.out (.inr (.inr (.inr rfl)))
  obtain ⟨c0, c1, c2, c3, c4, c5⟩ := pc6 kBV
  have hokk := hok'.out
  have hal := hokk.al
  have hale := hokk.ale
  have hah := hokk.ah
  have htl := hokk.tl
  have hth := hokk.th
  obtain ⟨NA, hNA⟩ : ∃ N, (p.ah - p.al + 1).toNat = N := ⟨_, rfl⟩
  have hNA2 : p.al + (NA : Int) = p.ah + 1 := by omega
  have hI0 : J (fndM p (pre.map mtK) ++ advN p m t 0) V ∧ KeepT n₀ V V ∧ KeepsFrom W2.heap.size V V := ⟨by show J (_ ++ []) V; rw [List.append_nil]; exact hJV, KeepT.refl _ _, KeepsFrom.refl _ _⟩
  have hsnoc : fndM p ((pre ++ [(m, t, BM)]).map mtK) = fndM p (pre.map mtK) ++ advN p m t NA := by rw [List.map_append, ← hNA]; exact fndM_snoc p _ m t
  have hpx : pre.map mtK ++ [(m, t)] <+: mtsL p := hpx
  have ⟨hJV', hKV', kx', hBs', kBV', kYV', hokk', hI0'⟩ := hyd8 hJV hKV kx hBs kBV kYV hokk hI0
  have ⟨hNA', hsnoc'⟩ := hyd2 hNA hsnoc
  clear hsnoc hNA hI0 hokk kYV kBV hBs kx hKV hJV
  gi_wp2
  clear c0 c1 c2 c3 c4 c5
  gi_loopw [4] (fun ax wv => ∃ j : Nat, j ≤ NA ∧ ax = .int .i64 (p.al + (j : Int)) ∧ Hid (J (fndM p (pre.map mtK) ++ advN p m t j) wv ∧ KeepT n₀ V wv ∧ KeepsFrom W2.heap.size V wv)) (fun ax _ => NA - (intOf ax - p.al).toNat)
  case atStart => exact ⟨0, Nat.zero_le _, by go_num, hI0'⟩
  case round =>
   obtain ⟨j, hj, rfl, hJs⟩ := hrel
   obtain ⟨hJr, hKr, hFr⟩ := hJs.out
   by_cases hlj : j < NA
   ·have jle : p.al + (j : Int) ≤ p.ah := by omega
    obtain ⟨c0, c1, c2, c3, c4, c5⟩ := pc6 (hKr.tag _ _ _ kBV'.out (.inr (.inr (.inl rfl))))
    have kxr := hKr.tag _ _ _ kx'.out (.inr (.inl rfl))
    obtain ⟨x0, x1, x2⟩ := pc3 kxr
    have hBr := hBs'.out.keep hKr hFr hzx
    have hhd := hokk'.out.head _ (List.getElem_mem hm)
    have hll : (p.lift m).length = p.steps := by unfold Pic.lift; rw [List.getD_eq_getElem?_getD, List.getElem?_eq_getElem hm]; show (liftL p.hs[m].ros p.hs[m].rub).length = _; rw [liftL_length]; exact hhd.1
    have hlo : rosOk (p.lift m) = true := by unfold Pic.lift; rw [List.getD_eq_getElem?_getD, List.getElem?_eq_getElem hm]; exact lift_ok (f := p.hs[m].ros) hhd.2.1 (by rw [hhd.1]; exact hhd.2.2)
    have hsp : 0 < p.steps := by have := hokk'.out.steps.1; omega
    rw [← hll] at hBr
    have kst := pf_starts_of hun m t (p.al + (j : Int)) BM n D bl Z p.rds (p.lift m) wr hBr hn60 hlo (fun r hr => by rw [hll]; exact hokk'.out.rd r hr) ⟨by omega, by omega⟩ ⟨by omega, by omega⟩ (by omega) (by omega)
    have hpf := fun i => fnd_at p (ms := pre.map mtK) (m := m) (t := t) hpx (j := j) (by omega) i
    have ⟨hJs', hJr', hKr', hFr', hBr', kxr', hhd', hlo'⟩ := hyd8 hJs hJr hKr hFr hBr kxr hhd hlo
    have ⟨kst', hpf'⟩ := hyd2 kst hpf
    clear hpf kst hlo hhd kxr hBr hFr hKr hJr hJs
    gi_wp2_with (first | (refine ⟨trivial, ?_⟩; gi_at_call 47; refine (callsIn_wide.2 (kst'.out)).mono ?_; rintro e w' ⟨v9, rfl, hb9, hs9⟩; (obtain ⟨A9, c9, rfl, hmx9⟩ := id hs9.1.slice)))
    unfold maxLen at hmx9
    have hw9 : KeepT n₀ V w' := hKr'.out.trans (KeepT.fresh hb9 (by have := hKr'.out.below.size; omega))
    have hf9 : KeepsFrom W2.heap.size V w' := hFr'.out.trans (KeepsFrom.of_grownBy (grown_of_below hb9) (fun j e => by cases e))
    obtain ⟨L, hL⟩ : ∃ L, fitL p.rds (p.lift m) t (p.al + (j : Int)) = L := ⟨_, rfl⟩
    have hfa := fun i => foundA_take p m t (p.al + (j : Int)) (i := i)
    rw [hL] at hs9 hfa hmx9 ⊢
    have hfl : (foundA p m t (p.al + (j : Int))).length = L.length := by rw [foundA_length, hL]
    obtain ⟨FA, hFA⟩ : ∃ F, foundA p m t (p.al + (j : Int)) = F := ⟨_, rfl⟩
    rw [hFA] at hfa hfl
    have hpf9 := hpf'.out
    rw [hFA] at hpf9
    obtain ⟨Y, hY9⟩ : ∃ Y, fndM p (pre.map mtK) ++ advN p m t j = Y := ⟨_, rfl⟩
    rw [hY9] at hpf9
    have hj9 : J (Y ++ FA.take 0) w' := by rw [List.take_zero, List.append_nil, ← hY9]; exact OwnFrom.later (I := J) hJo'.out hJr'.out hb9
    have hadv : fndM p (pre.map mtK) ++ advN p m t (j + 1) = Y ++ FA := by rw [advN_succ, ← List.append_assoc, hY9, hFA]
    have hI2 : J (Y ++ FA.take 0) w' ∧ KeepT n₀ V w' ∧ KeepsFrom W2.heap.size V w' ∧ SpT w' (.slice A9 L.length c9) L := ⟨hj9, hw9, hf9, hs9⟩
    clear c0 c1 c2 c3 c4 c5 x0 x1 x2
    have ⟨hb9', hs9', hw9', hf9', hL', hfa', hfl', hFA'⟩ := hyd8 hb9 hs9 hw9 hf9 hL hfa hfl hFA
    have ⟨hpf9', hY9', hj9', hadv', hI2'⟩ := hyd5 hpf9 hY9 hj9 hadv hI2
    clear hI2 hadv hj9 hY9 hpf9 hFA hfl hfa hL hf9 hw9 hs9 hb9
    gi_loopw [22] (fun ix wq => ∃ i : Nat, i ≤ L.length ∧ ix = .int .i64 (i : Int) ∧ Hid (J (Y ++ FA.take i) wq ∧ KeepT n₀ V wq ∧ KeepsFrom W2.heap.size V wq ∧ SpT wq (.slice A9 L.length c9) L)) (fun ix _ => L.length - (intOf ix).toNat)
    case atStart => exact ⟨0, Nat.zero_le _, rfl, hI2'⟩
    case round =>
     rename World => wq
     obtain ⟨i, hi, rfl, hJs9⟩ := hrel
     obtain ⟨hJq, hKq, hFq, hsq⟩ := hJs9.out
     have kxq := hKq.tag _ _ _ kx'.out (.inr (.inl rfl))
     by_cases hli : i < L.length
     ·obtain ⟨b1, o1, z1, heq, hbl1, g0, g1⟩ := SpnL.cells hsq.1 hli
      injection heq with e1 e2 e3
      subst e1 e3
      clear e2
      have hta := hfa'.out i hli
      obtain ⟨⟨lo, hi9⟩, hs⟩ : ∃ s, L[i] = s := ⟨_, rfl⟩
      rw [hs] at g0 g1 hta
      dsimp only at g0 g1 hta
      obtain ⟨W5, hW5, hb5, k5⟩ := newb wq (.cells #[.int .i64 lo, .int .i64 hi9] 101)
      obtain ⟨d0, d1⟩ := pc2 k5
      obtain ⟨x0, x1, x2⟩ := pc3 (blk hb5 kxq)
      have y0 := cellOne (blk hb5 (hKq.tag _ _ _ kYV'.out (.inr (.inr (.inr rfl)))))
      have hJ5 := OwnFrom.later (I := J) hJo'.out hJq hb5
      have hsz5 := hKq.below.size
      have hK5 := hKq.trans (KeepT.fresh (n₀ := n₀) hb5 (by omega))
      have hF5 := hFq.trans (KeepsFrom.of_grownBy (B := W2.heap.size) (grown_of_below hb5) (fun j e => by cases e))
      have hs5 := hsq.le hb5
      have hpx9 := hpf9'.out (i + 1)
      rw [hta, ← List.append_assoc] at hpx9
      have hln : (Y ++ FA.take i).length < (foundL p).length := by have := hpx9.length_le; simp at this ⊢; omega
      obtain ⟨fn, tmps, assign, body, hy, hR⟩ := hY'.out _ _ W5 hJ5 hpx9 hln
      dsimp only [fnArg, fndV] at hy
      have j1 : (i : Int) < (L.length : Int) := by omega
      have j2 : (0 : Int) ≤ (i : Int) := by omega
      have ⟨hJs9', hJq', hKq', hFq', hsq', kxq', hta', hs'⟩ := hyd8 hJs9 hJq hKq hFq hsq kxq hta hs
      have ⟨hb5', k5', hJ5', hK5', hF5', hs5', hpx9', hln'⟩ := hyd8 hb5 k5 hJ5 hK5 hF5 hs5 hpx9 hln
      clear hln hpx9 hs5 hF5 hK5 hJ5 k5 hb5 hs hta kxq hsq hFq hKq hJq hJs9
      gi_wp2
      refine (roundIn_any rfl hR).mono ?_
      rintro e W6 ⟨hkf, (⟨rfl, hJ6, hk6⟩ | ⟨rfl, hJx6⟩)⟩
      ·have hI6 : J (Y ++ FA.take (i + 1)) W6 ∧ KeepT n₀ V W6 ∧ KeepsFrom W2.heap.size V W6 ∧ SpT W6 (.slice (some ⟨b1, o1, none⟩) L.length c9) L := ⟨by rw [hta'.out, ← List.append_assoc]; exact hJ6, hK5'.out.trans hk6, hF5'.out.trans (keepsFrom_mono hkf hz2), hs5'.out.keep hk6⟩
       have ⟨hkf', hJ6', hk6', hI6'⟩ := hyd4 hkf hJ6 hk6 hI6
       clear hI6 hk6 hJ6 hkf
       gi_wp2
       go_roundw
       case rel => exact ⟨i + 1, by omega, by go_num, hI6'⟩
       case measure => simp [intOf]; omega
      ·have hX : KeepsFrom W2.heap.size V W6 ∧ FnX p Jx .ret (pre ++ [(m, t, BM)]) W6 := ⟨hF5'.out.trans (keepsFrom_mono hkf hz2), rfl, _, hJx6, hpx9'.out, by simp⟩
       have ⟨hkf', hJx6', hX'⟩ := hyd3 hkf hJx6 hX
       clear hX hJx6 hkf
       gi_wp2
       exact hX'.out
     ·obtain rfl : i = L.length := by omega
      rw [List.take_of_length_le (by have := hfl'.out; omega)] at hJq
      have hI7 : J (fndM p (pre.map mtK) ++ advN p m t (j + 1)) wq ∧ KeepT n₀ V wq ∧ KeepsFrom W2.heap.size V wq := ⟨by rw [hadv'.out]; exact hJq, hKq, hFq⟩
      have ⟨hJs9', hJq', hKq', hFq', hsq', kxq', hI7'⟩ := hyd7 hJs9 hJq hKq hFq hsq kxq hI7
      clear hI7 kxq hsq hFq hKq hJq hJs9
      gi_wp2
      go_roundw
      case rel => exact ⟨j + 1, by omega, by go_num, hI7'⟩
      case measure => simp [intOf]; omega
   ·obtain rfl : j = NA := by omega
    have jle : ¬ p.al + (j : Int) ≤ p.ah := by omega
    obtain ⟨c0, c1, c2, c3, c4, c5⟩ := pc6 (hKr.tag _ _ _ kBV'.out (.inr (.inr (.inl rfl))))
    have hF : FnI p n₀ J W2 (pre ++ [(m, t, BM)]) wr := ⟨by rw [hsnoc'.out]; exact hJr, hKV'.out.trans hKr⟩
    have ⟨hJs', hJr', hKr', hFr', hF'⟩ := hyd5 hJs hJr hKr hFr hF
    clear hF hFr hKr hJr hJs
    gi_wp2
    exact ⟨hFr'.out, hKr'.out, hF'.out⟩
 case done =>
  intro D xs V hD hS hI hK
  have hJ9 : J (foundL p) V := by have := hI.1; rw [show xs.map mtK = mtsL p from hS, fndM_all] at this; exact this
  gi_wp2
  refine ⟨by simp, .inl ⟨D, _, rfl, run_takeDeferred hK, ?_⟩⟩
  exact ⟨_, results_none rfl _ _ _, ⟨_, rfl⟩, .inl ⟨_, rfl, OwnFrom.putObj (I := J) hJo'.out _ hJ9 (by omega) hK rfl⟩⟩
 case stop =>
  intro D c pre V hD hS hI hK
  obtain ⟨rfl, ys, hJ9, hpre9, hne9⟩ := hI
  gi_wp2
  refine ⟨by simp, .inl ⟨D, _, rfl, run_takeDeferred hK, ?_⟩⟩
  exact ⟨_, results_none rfl _ _ _, ⟨_, rfl⟩, .inr ⟨_, ⟨hpre9, hne9⟩, OwnFrom.putObj (I := Jx) hJxo'.out _ hJ9 (by omega) hK rfl⟩⟩
end Go.Proofs.YtphdalgaemefoaaGreat
