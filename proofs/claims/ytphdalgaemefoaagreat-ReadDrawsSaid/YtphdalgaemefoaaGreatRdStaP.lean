/- What the program's starts finds, plain: one cut after another, in any order. read.mount.starts: the walk (with union's contract as a hypothesis). -/
import Derived.Test.YtphdalgaemefoaaGreatFindLaw
import Derived.Test.YtphdalgaemefoaaGreatRdMtR
import Derived.Test.YtphdalgaemefoaaGreatRdUnionP
import Derived.Test.YtphdalgaemefoaaGreatRdFitQ
import Derived.Test.YtphdalgaemefoaaGreatRdMount
namespace Go.Proofs.YtphdalgaemefoaaGreat
set_option maxRecDepth 100000
set_option maxHeartbeats 1000000
set_option linter.unusedVariables false
def shiftL (d : Int) (L : List Spn) : List Spn := L.map fun s => (s.1 - d, s.2 - d)
theorem shiftL_length (d : Int) (L : List Spn) : (shiftL d L).length = L.length := by unfold shiftL; simp
theorem shiftL_spb {d : Int} {L : List Spn} (h : ∀ s ∈ L, (-1500000000000 ≤ s.1 ∧ s.1 ≤ 1500000000000) ∧ (-1500000000000 ≤ s.2 ∧ s.2 ≤ 1500000000000)) (hd : -11000 ≤ d ∧ d ≤ 11000) : SpB (shiftL d L) := fun s hs => by
 obtain ⟨t, ht, rfl⟩ := List.mem_map.1 hs
 have := h t ht
 simp only
 omega
theorem shiftL_take {d : Int} {L : List Spn} {k : Nat} (h : k < L.length) : shiftL d (L.take (k + 1)) = shiftL d (L.take k) ++ [(L[k].1 - d, L[k].2 - d)] := by unfold shiftL; rw [List.take_succ_eq_append_getElem h, List.map_append]; rfl
def InCut (rds : List Rd) (lift : List Int) (throw adv : Int) (len : Nat) (c x : Int) : Prop := ∃ ph, ph < len ∧ (baseS rds lift throw c ph).1 - c * adv ≤ x ∧ x ≤ (baseS rds lift throw c ph).2 - c * adv
theorem inL_shift {rds : List Rd} {lift : List Int} {throw adv c x : Int} {len : Nat} : inL (shiftL (c * adv) (rowS rds lift throw len c)) x ↔ InCut rds lift throw adv len c x := by
 unfold inL shiftL rowS InCut
 constructor
 ·rintro ⟨s, hs, h⟩
  obtain ⟨t, ht, rfl⟩ := List.mem_map.1 hs
  obtain ⟨ph, hp, rfl⟩ := List.mem_map.1 ht
  exact ⟨ph, List.mem_range.1 hp, h⟩
 ·rintro ⟨ph, hp, h⟩
  exact ⟨_, List.mem_map.2 ⟨_, List.mem_map.2 ⟨ph, List.mem_range.2 hp, rfl⟩, rfl⟩, h⟩
section
variable {rds : List Rd} {lift : List Int} {throw adv : Int}
structure StaI (rds : List Rd) (lift : List Int) (throw adv : Int) (done : Int → Prop) (l : List Spn) : Prop where
 nm : Nm l
 mem : ∀ x, inL l x ↔ (0 ≤ x ∧ x ≤ 10000) ∧ ∀ c, done c → InCut rds lift throw adv lift.length c x
theorem StaI.start : StaI rds lift throw adv (fun _ => False) [(0, 10000)] := ⟨nm_one (by decide), fun x => by
 rw [inL_cons]
 simp only [inL_nil, or_false]
 exact ⟨fun h => ⟨h, fun c hc => hc.elim⟩, fun h => h.1⟩⟩
theorem StaI.step {done : Int → Prop} {l : List Spn} (h : StaI rds lift throw adv done l) (c : Int) : StaI rds lift throw adv (fun d => done d ∨ d = c) (meetL l (normL (shiftL (c * adv) (rowS rds lift throw lift.length c)))) := by
 obtain ⟨n1, n2⟩ := norm_nm (shiftL (c * adv) (rowS rds lift throw lift.length c))
 obtain ⟨m1, m2⟩ := meet_nm h.nm n1
 refine ⟨m1, fun x => ?_⟩
 rw [m2, n2, inL_shift, h.mem]
 constructor
 ·rintro ⟨⟨a, b⟩, d⟩
  exact ⟨a, fun e he => he.elim (b e) fun q => by rw [q]; exact d⟩
 ·rintro ⟨a, b⟩
  exact ⟨⟨a, fun e he => b e (.inl he)⟩, b c (.inr rfl)⟩
theorem StaI.congr {done done' : Int → Prop} {l : List Spn} (h : StaI rds lift throw adv done l) (he : ∀ c, done c ↔ done' c) : StaI rds lift throw adv done' l := ⟨h.nm, fun x => by rw [h.mem]; exact and_congr_right fun _ => ⟨fun q c hc => q c ((he c).2 hc), fun q c hc => q c ((he c).1 hc)⟩⟩
theorem StaI.fin {done : Int → Prop} {l : List Spn} (h : StaI rds lift throw adv done l) (h0 : 0 < lift.length) (hadv : -1000 ≤ adv ∧ adv ≤ 1000) (hcut : ∀ r ∈ rds, 0 ≤ r.cut ∧ r.cut ≤ 11) (hd : ∀ c, done c ↔ ∃ r ∈ rds, r.cut = c) : l = fitL rds lift throw adv :=
 fitL_of h.nm h0 hadv hcut fun x => by
  rw [h.mem]
  exact and_congr_right fun _ => ⟨fun q r hr => q r.cut ((hd _).2 ⟨r, hr, rfl⟩), fun q c hc => by obtain ⟨r, hr, rfl⟩ := (hd c).1 hc; exact q r hr⟩
theorem StaI.none {done : Int → Prop} (h : StaI rds lift throw adv done []) (h0 : 0 < lift.length) (hadv : -1000 ≤ adv ∧ adv ≤ 1000) (hcut : ∀ r ∈ rds, 0 ≤ r.cut ∧ r.cut ≤ 11) (hd : ∀ c, done c → ∃ r ∈ rds, r.cut = c) : fitL rds lift throw adv = [] := by
 refine nm_ext (fitL_nm ..) nm_nil fun x => ⟨fun hx => ?_, fun hx => absurd hx (inL_nil x)⟩
 rw [h.mem]
 obtain ⟨a, b⟩ := fitL_in.1 hx
 refine ⟨a, fun c hc => ?_⟩
 obtain ⟨r, hr, rfl⟩ := hd c hc
 obtain ⟨c1, c2⟩ := hcut r hr
 obtain ⟨ph, h1, h2⟩ := b r.cut.toNat (by omega)
 rw [Int.toNat_of_nonneg c1] at h2
 have q1 := Int.mul_le_mul_of_nonneg_left hadv.1 c1
 have q2 := Int.mul_le_mul_of_nonneg_left hadv.2 c1
 exact ⟨ph, h1, (baseS_in (by omega)).2 h2⟩
end
end Go.Proofs.YtphdalgaemefoaaGreat
namespace Go.Proofs.YtphdalgaemefoaaGreat
set_option maxRecDepth 100000
set_option maxHeartbeats 1000000
open Go.RowKit
set_option linter.unusedVariables false
set_option linter.unusedSimpArgs false
theorem ranges_below {H : Type} {P : Program} {k : TypeId} {R : Value → Option (DataW H × List MemPlace)} {w W : World} {b r n : Nat} {D : DataW H} {left : Lit → Bool} {cnt : Nat} (h : w.ranges P k R b r n D left cnt) (hb : Below w.heap.size w W) : W.ranges P k R b r n D left cnt := by
 obtain ⟨es, clock, since, seen, c0, h1, h2, h3, h4, h5, h6⟩ := h
 exact ⟨es, clock, since, seen, c0, (hb.block _ (gsl h1)).trans h1, h2, h3, h4, (hb.block _ (gsl h5)).trans h5, h6⟩
theorem ranges_cnt {H : Type} {P : Program} {k : TypeId} {R : Value → Option (DataW H × List MemPlace)} {w : World} {b r n : Nat} {D : DataW H} {left : Lit → Bool} {cnt : Nat} (h : w.ranges P k R b r n D left cnt) : cnt ≤ n := by
 obtain ⟨es, clock, since, seen, c0, h1, h2, h3, h4, h5, h6, h7, h8⟩ := h
 have : (leftOf es seen).size ≤ es.size := by unfold leftOf; exact Array.size_filter_le
 omega
def StW (rds : List Rd) (lift : List Int) (throw adv : Int) (W1 : World) (B n : Nat) (D : DataW Unit) (lx : Value) (wr : World) : Prop := ∃ (l : List Spn) (left : Lit → Bool) (cnt : Nat), wr.ranges Tryz.prog 3 hdR B W1.heap.size n D left cnt ∧ Below W1.heap.size W1 wr ∧ SpT wr lx l ∧ l.length + cnt * 24 ≤ 1 + n * 24 ∧ StaI rds lift throw adv (fun c => hasC rds c = true ∧ left (.int .i64 c) = false) l
def StR (d : Int) (row : List Spn) (Wd : World) (k : Nat) (vo : Value) (W : World) : Prop := Below Wd.heap.size Wd W ∧ W.ownsRow Wd.heap.size 101 2 vo k ((shiftL d (row.take k)).flatMap spnEnc)
theorem bases_row {w : World} {B n : Nat} {D : DataW Unit} {bl : Int → Nat} {Z len : Nat} {cs : Int → Bool} {row : Int → List Spn} (h : Bases w B n D bl Z len cs row) (hl : len ≤ maxLen) {c : Int} (hc : cs c = true) : SpnL w (.slice (some ⟨bl c, 0, none⟩) len len) (row c) := by
 have e := h.len c hc
 have hb := (h.blk c hc).2
 refine ⟨some ⟨bl c, 0, none⟩, len, by rw [e], by omega, hl, (fun h => by cases h), fun h0 => ⟨bl c, 0, rfl, gsl hb, fun j hj i u hu => ?_⟩⟩
 have hi : i < 2 := (List.getElem?_eq_some_iff.1 hu).1
 have := flat_get (enc := spnEnc) (k := 2) (fun _ => rfl) (row c) j hj i u hu
 rw [Nat.zero_add]
 simp only [World.cell?, hb]
 simpa using this
theorem norm_facts {L : List Spn} (h : SpB L) : SpB (normL L) ∧ (normL L).length ≤ L.length := by
 obtain ⟨-, b, c⟩ := fold_joined h [] nm_nil (fun s hs => by cases hs)
 exact ⟨b, by show (L.foldl joinedL []).length ≤ _; simpa using c⟩
theorem staI_spb {rds : List Rd} {lift : List Int} {throw adv : Int} {done : Int → Prop} {l : List Spn} (h : StaI rds lift throw adv done l) : SpB l := SpB.of_in h.nm fun x hx => by
 have := ((h.mem x).1 hx).1
 omega
theorem pf_starts_of (hun : ∀ (v : Value) (L : List Spn) (W : World), SpnL W v L → 0 < L.length → L.length ≤ 10000 → SpB L → Calls Tryz.prog 67 #[v] W fun e w' => ∃ v', e = .returned v' ∧ Below W.heap.size W w' ∧ SpnL w' v' (normL L))
  (head throw adv : Int) (B n : Nat) (D : DataW Unit) (bl : Int → Nat) (Z : Nat) (rds : List Rd) (lift : List Int) (w : World) (hB : Bases w B n D bl Z lift.length (hasC rds) (rowS rds lift throw lift.length)) (hn : n ≤ 60) (hlo : rosOk lift = true) (hr : ∀ r ∈ rds, RdOk lift.length r) (ht : 0 ≤ throw ∧ throw ≤ 16) (ha : -1000 ≤ adv ∧ adv ≤ 1000) (h24 : lift.length ≤ 24) (h0 : 0 < lift.length) :
  Calls Tryz.prog 47 #[.agg #[.int .i64 head, .int .i64 throw, .map (some B)], .int .i64 adv] w fun e w' => ∃ v', e = .returned v' ∧ Below w.heap.size w w' ∧ SpT w' v' (fitL rds lift throw adv) := by
 obtain ⟨W0, hW0, hb0, k0⟩ := newb w (.cells #[.int .i64 head, .int .i64 throw, .map (some B)] 97)
 obtain ⟨W1, hW1, hb1, k1⟩ := newb W0 (.cells #[.int .i64 0, .int .i64 10000] 101)
 have hbw1 := bel_set hb0 hb1
 have hB1 := hB.le hbw1
 obtain ⟨c0, c1, c2⟩ := pc3 (blk hb1 k0)
 have hcut : ∀ r ∈ rds, 0 ≤ r.cut ∧ r.cut ≤ 11 := fun r h => (hr r h).1
 have hs1 : SpT W1 (.slice (some ⟨W0.heap.size, 0, none⟩) 1 1) [(0, 10000)] := ⟨⟨some ⟨W0.heap.size, 0, none⟩, 1, rfl, Nat.le_refl _, by unfold maxLen; omega, fun h => (by cases h), fun _ => ⟨W0.heap.size, 0, rfl, gsl k1, fun j hj i u hu => by
  obtain rfl : j = 0 := by simpa using hj
  obtain ⟨x0, x1⟩ := pc2 k1
  have hi : i < 2 := (List.getElem?_eq_some_iff.1 hu).1
  match i, hi with
  | 0, _ => show W1.cell? ⟨W0.heap.size, 0, none⟩ = some u; rw [x0]; simpa [spnEnc] using hu
  | 1, _ => show W1.cell? ⟨W0.heap.size, 1, none⟩ = some u; rw [x1]; simpa [spnEnc] using hu⟩⟩, fun a n c e => by
  injection e with e
  injection e with e
  subst e
  exact ⟨_, k1⟩⟩
 have ⟨hun', hB', hlo', hr', hb0', hb1', k0', k1'⟩ := hyd8 hun hB hlo hr hb0 hb1 k0 k1
 have ⟨hbw1', hB1', hcut', hs1'⟩ := hyd4 hbw1 hB1 hcut hs1
 clear hs1 hcut hB1 hbw1 k1 k0 hb1 hb0 hr hlo hB hun
 go_enter Tryz.func47, Tryz.ntmps47
 go_wp2_with (first | (at_range; refine wpList_range_own _ rfl _ 95 rfl 3 98 keyed9 Tryz.underlying95 hdR B n D rfl hB1'.out.own ?_; intro w5 hrg0 hg0 hs0) | fail)
 go_frame
 have hb5 : Below W1.heap.size W1 w5 := Below.grown (Below.refl _ _) hg0 (Nat.le_refl _) (fun k e => by cases e)
 have hs5 := hs1'.out.le hb5
 have hI0 : StW rds lift throw adv W1 B n D (.slice (some ⟨W0.heap.size, 0, none⟩) 1 1) w5 := ⟨[(0, 10000)], _, _, hrg0, hb5, hs5, by have := ranges_cnt hrg0; simp; omega, StaI.start.congr fun c => ⟨fun h => h.elim, fun ⟨h1, h2⟩ => (by rw [hB1'.out.has c (hB1'.out.wf c h1), h1] at h2; cases h2)⟩⟩
 clear hrg0 hs0 c0 c1 c2
 have ⟨hg0', hb5', hs5', hI0'⟩ := hyd4 hg0 hb5 hs5 hI0
 clear hI0 hs5 hb5 hg0
 go_loopw [5] (fun lx wr => Hid (StW rds lift throw adv W1 B n D lx wr)) (fun _ wr => wr.rangeLeft B W1.heap.size)
 case atStart => exact hI0'
 case round =>
  obtain ⟨l, left, cnt, hrg, hbw, hsl, hll, hst⟩ := hrel.out
  have hlb := staI_spb hst
  obtain ⟨LA, lc, rfl, -⟩ := id hsl.1.slice
  have hww := bel_set hbw1'.out hbw
  go_wp2_with (first | (at_next; refine wpList_nextHd rfl _ rfl rfl hrg ?_ ?_) | fail)
  ·intro hc0 hl0
   have hfin : l = fitL rds lift throw adv := hst.fin h0 ha hcut'.out fun c => ⟨fun h => hasC_iff.1 h.1, fun h => ⟨hasC_iff.2 h, hl0 _⟩⟩
   have hsl2 : SpT wr (.slice LA l.length lc) (fitL rds lift throw adv) := by rw [← hfin]; exact hsl
   have ⟨hrel', hrg', hbw', hsl', hlb', hst', hfin', hsl2'⟩ := hyd8 hrel hrg hbw hsl hlb hst hfin hsl2
   have ⟨hww', hl0'⟩ := hyd2 hww hl0
   clear hl0 hww hsl2 hfin hst hlb hsl hbw hrg hrel
   go_wp2
   go_ret
   exact ⟨_, rfl, hww'.out, hsl2'.out⟩
  ·intro x y w6 cnt1 hwx hlx hat hrg1 hcl hg1 hs1 hen
   have hhx : hasC rds x = true := by
    rw [← hB1'.out.has x hwx]
    exact Maps.has_true_of_atKey hat
   obtain ⟨q1, q2⟩ := hasC_wf hr'.out hhx
   have hy : y = some (bl x, lift.length, lift.length) := by
    have := hat .nil
    rw [hB1'.out.get x hhx] at this
    exact hdY_inj this.symm
   subst hy
   dsimp only [hdV] at hen ⊢
   have hb46 : Below W1.heap.size W1 w6 := Below.grown hbw hg1 hbw.size (fun k e => by injection e with e; omega)
   have hmeas : w6.rangeLeft B W1.heap.size < wr.rangeLeft B W1.heap.size := by rw [hrg1.left_eq, hrg.left_eq]; exact hcl
   have hww6 := bel_set hbw1'.out hb46
   have hrow := bases_row (hB1'.out.le hb46) (by unfold maxLen; omega) hhx
   have hsl6 := hsl.turn hg1 (by obtain ⟨o, ho, hw⟩ := hrg.iter_walk; exact ⟨o, ho, Obj.not_cells_of_walk hw⟩)
   have m1 := mul_in q1 q2 (b := adv) (B := 1000) (by omega) (by omega) (by decide)
   have hrl : (rowS rds lift throw lift.length x).length = lift.length := rowS_length ..
   obtain ⟨row, hrw⟩ : ∃ r, rowS rds lift throw lift.length x = r := ⟨_, rfl⟩
   rw [hrw] at hrow hrl
   have hrb : ∀ s ∈ row, (-1500000000000 ≤ s.1 ∧ s.1 ≤ 1500000000000) ∧ (-1500000000000 ≤ s.2 ∧ s.2 ≤ 1500000000000) := fun s hs => by
    rw [← hrw] at hs
    obtain ⟨ph, -, rfl⟩ := List.mem_map.1 hs
    have := baseS_in2 (c := x) (ph := ph) hlo'.out ht hr'.out
    omega
   have hI0 : StR (x * adv) row w6 0 (.slice none 0 0) w6 := ⟨Below.refl _ _, World.ownsRow_nil _ _ _ _⟩
   have ⟨hrel', hrg', hbw', hsl', hlb', hst', hat', hrg1'⟩ := hyd8 hrel hrg hbw hsl hlb hst hat hrg1
   have ⟨hg1', hs1', hhx', hb46', hmeas', hww6', hrow', hsl6'⟩ := hyd8 hg1 hs1 hhx hb46 hmeas hww6 hrow hsl6
   have ⟨hrw', hrb', hI0'⟩ := hyd3 hrw hrb hI0
   clear hI0 hrb hrw hsl6 hrow hww6 hmeas hb46 hhx hs1 hg1 hrg1 hat hst hlb hsl hbw hrg hrel
   go_wp2_with (fail)
   go_loopw [23, 8] (fun kx vo wv => ∃ k : Nat, k ≤ lift.length ∧ kx = .int .i64 (k : Int) ∧ Hid (StR (x * adv) row w6 k vo wv)) (fun kx _ _ => lift.length - (intOf kx).toNat)
   case atStart => exact ⟨0, Nat.zero_le _, rfl, hI0'⟩
   case round =>
    rename World => wv
    obtain ⟨k, hk, rfl, hI⟩ := hrel
    obtain ⟨hbv, ho⟩ := hI.out
    obtain ⟨AO, cO, rfl⟩ := slice_formR ho
    by_cases hlt : k < lift.length
    ·obtain ⟨b1, o1, x1, heq, hbl1, g0, g1⟩ := SpnL.cells (hrow'.out.le hbv) (j := k) (by omega)
     injection heq with e1 e2 e3
     injection e1 with e1
     injection e1 with e1 e4
     subst e1 e4
     clear e2 e3
     rw [Nat.zero_add] at g0 g1
     have htk := shiftL_take (d := x * adv) (L := row) (k := k) (by omega)
     have hab := hrb'.out _ (List.getElem_mem (l := row) (n := k) (by omega))
     obtain ⟨⟨a, b⟩, hs⟩ : ∃ s, row[k]'(by omega) = s := ⟨_, rfl⟩
     rw [hs] at g0 g1 htk hab
     dsimp only at g0 g1 htk hab
     obtain ⟨W4, hW4, hb4, k4⟩ := newb wv (.cells #[.int .i64 a, .int .i64 b] 101)
     obtain ⟨d0, d1⟩ := pc2 k4
     have ho4 := own_below ho hb4
     have hbv4 := bel_set hbv hb4
     have j1 : (k : Int) < (lift.length : Int) := by omega
     have j2 : (0 : Int) ≤ (k : Int) := by omega
     obtain ⟨Wa, hWa, hba, ka⟩ := newb W4 (.cells #[.int .i64 (a - x * adv), .int .i64 (b - x * adv)] 101)
     obtain ⟨na0, na1⟩ := pc2 ka
     have hoa := own_below ho4 hba
     have hbva := bel_set hbv4 hba
     have hza := hbva.size
     have hlk : (shiftL (x * adv) (row.take k)).length = k := by rw [shiftL_length, List.length_take]; omega
     have hlk1 : (shiftL (x * adv) (row.take (k + 1))).length = k + 1 := by rw [shiftL_length, List.length_take]; omega
     have ⟨hI', hbv', ho', hs', htk', hb4', k4', ho4'⟩ := hyd8 hI hbv ho hs htk hb4 k4 ho4
     have ⟨hbv4', hba', ka', hoa', hbva', hlk', hlk1'⟩ := hyd7 hbv4 hba ka hoa hbva hlk hlk1
     clear hlk1 hlk hbva hoa ka hba hbv4 ho4 k4 hb4 htk hs ho hbv hI
     go_wp2_with (first | (at_builtin; go_must (refine wpList_appS _ rfl _ _ 98 rfl w6.heap.size 101 Tryz.underlying98 spanInfo9 (.slice AO k cO) (shiftL (x * adv) (row.take k)) rfl (by rw [hlk'.out]; exact hoa'.out) W4.heap.size (a - x * adv, b - x * adv) rfl na0 na1 (by rw [hlk'.out]; omega) hza ?_)))
     intro v7 w7 r1 r2 r3
     have r1b : w7.ownsRow w6.heap.size 101 2 v7 (k + 1) ((shiftL (x * adv) (row.take (k + 1))).flatMap spnEnc) := by rw [hlk'.out] at r1; rw [htk'.out, List.flatMap_append, List.flatMap_singleton]; exact r1
     obtain ⟨A7, c7, rfl⟩ := slice_formR r1b
     have hN : StR (x * adv) row w6 (k + 1) (.slice A7 (k + 1) c7) w7 := ⟨hbva'.out.trans (r2 _ (Nat.le_refl _)), r1b⟩
     have ⟨r1', r1b', r2', r3', hN'⟩ := hyd5 r1 r1b r2 r3 hN
     clear hN r3 r2 r1b r1
     go_wp2
     go_roundw
     case rel => exact ⟨k + 1, by omega, by go_num, hN'⟩
     case measure => simp [intOf]; omega
    ·obtain rfl : k = lift.length := by omega
     have hrl2 : (shiftL (x * adv) row).length = lift.length := by rw [shiftL_length, hrl]
     rw [List.take_of_length_le (by omega)] at ho
     have hso : SpnL wv (.slice AO lift.length cO) (shiftL (x * adv) row) := SV.of_own (base := w6.heap.size) (e := 101) (enc := spnEnc) (fun _ => rfl) (by rw [hrl2]; exact ho)
     have hsb : SpB (shiftL (x * adv) row) := shiftL_spb hrb'.out (by omega)
     obtain ⟨hnb, hnl⟩ := norm_facts hsb
     have kun := hun'.out _ _ wv hso (by omega) (by omega) hsb
     have hrg2 := ranges_below hrg1'.out hbv
     have hslv := hsl6'.out.le hbv
     have hstep := hst'.out.step x
     have hw1v : Below W1.heap.size W1 wv := hb46'.out.trans (hbv.mono hb46'.out.size)
     rw [hrw'.out] at hstep
     obtain ⟨NL, hNL⟩ : ∃ n, normL (shiftL (x * adv) row) = n := ⟨_, rfl⟩
     rw [hNL] at hnb hnl kun hstep
     have hml := meetL_length l NL
     have hcn := ranges_cnt hrg'.out
     have ⟨hI', hbv', ho', hso', hsb', hnb', kun', hrg2'⟩ := hyd8 hI hbv ho hso hsb hnb kun hrg2
     have ⟨hslv', hstep', hw1v', hNL'⟩ := hyd4 hslv hstep hw1v hNL
     clear hNL hw1v hstep hslv hrg2 kun hnb hsb hso ho hbv hI
     go_wp2_with (fail)
     go_at_call 67
     refine kun'.out.mono ?_
     rintro e W7 ⟨v7, rfl, hb7, hs7⟩
     obtain ⟨A7, c7, rfl, -⟩ := id hs7.slice
     have hsl7 := hslv'.out.le hb7
     have kme := pf_rd_meet _ _ l NL W7 hsl7.1 hs7 hlb'.out hnb'.out (by omega) (by omega)
     have ⟨hb7', hs7', hsl7', kme'⟩ := hyd4 hb7 hs7 hsl7 kme
     clear kme hsl7 hs7 hb7
     go_wp2_with (fail)
     go_at_call 66
     refine kme'.out.mono ?_
     rintro e W8 ⟨v8, rfl, hb8, hs8⟩
     obtain ⟨A8, c8, rfl, -⟩ := id hs8.1.slice
     obtain ⟨l', hl'⟩ : ∃ l', meetL l NL = l' := ⟨_, rfl⟩
     have hst8 := hstep'.out
     rw [hl'] at hst8 hs8 hml ⊢
     have hb78 := bel_set hb7'.out hb8
     have hw18 : Below W1.heap.size W1 W8 := bel_set hw1v'.out hb78
     have hww8 := bel_set hbw1'.out hw18
     by_cases hz : l'.length = 0
     ·have hl0 : l' = [] := List.eq_nil_of_length_eq_zero hz
      rw [hl0] at hst8
      have hnone := hst8.none h0 ha hcut'.out (fun c hc => hasC_iff.1 (hc.elim (fun h => h.1) (fun h => by rw [h]; exact hhx'.out)))
      have ⟨hs8', hl'', hst8', hb8', hb78', hw18', hww8', hl0'⟩ := hyd8 hs8 hl' hst8 hb8 hb78 hw18 hww8 hl0
      have hnone' := hyd1 hnone
      clear hnone hl0 hww8 hw18 hb78 hb8 hst8 hl' hs8
      go_wp2
      go_ret
      exact ⟨_, rfl, hww8'.out, by rw [hnone'.out]; exact SpT.nil _⟩
     ·have hz2 : ¬ (l'.length : Int) = 0 := by omega
      have hrg8 := ranges_below hrg2'.out hb78
      have hm8 : W8.rangeLeft B W1.heap.size < wr.rangeLeft B W1.heap.size := by rw [hrg8.left_eq, hrg'.out.left_eq]; exact hcl
      have hN : StW rds lift throw adv W1 B n D (.slice A8 l'.length c8) W8 := ⟨l', _, _, hrg8, hw18, hs8, by omega, hst8.congr fun c => by
       by_cases e : c = x
       ·subst e
        refine ⟨fun _ => ⟨hhx'.out, by simp [Lit.sameKey]⟩, fun _ => .inr rfl⟩
       ·have h9 : (Lit.int .i64 c).sameKey (.int .i64 x) = false := by simp [Lit.sameKey, e]
        simp [h9, e]⟩
      have ⟨hs8', hl'', hst8', hb8', hb78', hw18', hww8', hrg8'⟩ := hyd8 hs8 hl' hst8 hb8 hb78 hw18 hww8 hrg8
      have ⟨hm8', hN'⟩ := hyd2 hm8 hN
      clear hN hm8 hrg8 hww8 hw18 hb78 hb8 hst8 hl' hs8
      go_wp2
      go_roundw
      case rel => exact hN'
      case measure => exact hm8'.out
end Go.Proofs.YtphdalgaemefoaaGreat
