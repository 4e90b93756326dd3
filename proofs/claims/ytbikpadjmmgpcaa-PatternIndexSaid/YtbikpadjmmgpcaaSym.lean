/- append onto a row of the call's own: where the new row lies. pattern.Symmetries. Lists of moves that are only read; the reference's SameMoves. -/
import Derived.Test.YtbikpadjmmgpcaaBase
import Derived.Test.YtbikpadjmmgpcaaSearch
namespace Go.Proofs.Ytbikpadjmmgpcaa
open Go.RowKit
set_option linter.unusedVariables false
theorem run_append_ownB {P : Program} (w : World) (base : Nat) (t ty e : TypeId) (i : TypeInfo) (z : Value) (size bytes : Nat) (ht : P.underlying t = some (.slice e)) (hi : P.info? e = some i) (hz : i.zero = some z)
    (hsize : i.size = size) (hby : i.bytes = bytes) (hzs : z.cells.size = size) (hsz : 0 < size)
    (v : Value) (n : Nat) (xs : List Value) (hown : w.ownsRow base e size v n xs)
    (a : Addr) (m c : Nat) (news : List Value) (hl : news.length = m * size) (hnews : ∀ j u, news[j]? = some u → w.cell? (a.add j) = some u) (h1 : ∀ u ∈ news, u.oneCell' = true)
    (h63 : n + m ≤ maxLen) (hbytes : (n + m) * bytes ≤ 140737488355328) (hbase : base ≤ w.heap.size) :
    ∃ v' w', (Builtin.append_ #[t, t] ty #[v, .slice (some a) m c]).run P w = .ok v' w' ∧ w'.ownsRow base e size v' (n + m) (xs ++ news) ∧ w.grownBy w' v.ownBlock ∧
      (v' = .slice none 0 0 ↔ v = .slice none 0 0 ∧ m = 0) ∧ ∀ k, v'.ownBlock = some k → v.ownBlock = some k ∨ w.heap.size ≤ k := by
  obtain ⟨v', w', hr, h2, h3, h4⟩ := run_append_own (P := P) w base t ty e i z size bytes ht hi hz hsize hby hzs hsz v n xs hown a m c news hl hnews h1 h63 hbytes hbase
  refine ⟨v', w', hr, h2, h3, h4, ?_⟩
  have hsmall : n + m ≤ 9223372036854775807 := by simp only [maxLen] at h63; omega
  rcases hown.2 with ⟨rfl, rfl⟩ | ⟨g, cap, cur, rfl, hbg, hg, hnc, hcm, hcs, htake⟩
  · have hx : xs = [] := List.eq_nil_of_length_eq_zero (by simpa using hown.1)
    subst hx
    obtain ⟨v2, w2, hr2, k2, _, _⟩ := run_append_own (P := P) w w.heap.size t ty e i z size bytes ht hi hz hsize hby hzs hsz (.slice none 0 0) 0 [] (World.ownsRow_nil _ _ _ _) a m c news hl hnews h1 h63 hbytes (Nat.le_refl _)
    rw [hr] at hr2
    injection hr2 with e1 e2
    subst e1 e2
    exact fun k hk => .inr (k2.lt k hk).1
  · subst hsize
    by_cases hroom : n + m ≤ cap
    · have hfit : n * i.size + news.length ≤ cur.size := by rw [hl, hcs, ← Nat.add_mul]; exact Nat.mul_le_mul_right _ hroom
      have hr2 := run_append_room (P := P) w t ty e i ht hi g n cap cur hg a m c news hl hnews h1 hroom hfit
      rw [hr] at hr2
      injection hr2 with e1 e2
      subst e1
      exact fun k hk => .inl hk
    · have holds : ∀ j u, xs[j]? = some u → w.cell? ((⟨g, 0, none⟩ : Addr).add j) = some u := hown.cells (g := g) rfl
      have hr2 := run_append_grow (P := P) w t ty e i z ht hi hz ⟨g, 0, none⟩ n cap xs hown.1 holds a m c news hl hnews (by omega) (by omega) (growslice_fits (by omega) (by rw [hby]; exact hbytes))
      rw [hr] at hr2
      injection hr2 with e1 e2
      subst e1
      intro k hk
      have : w.heap.size = k := by simpa [Value.ownBlock] using hk
      exact .inr (by omega)
theorem wpList_append_ownB {P : Program} (w : World) {ops : Array Oper} {rest : List Oper} {o : Oper} {a : Act} {Q : Exit → Act → World → Prop} (hgd : o.guard = none) (s x : Operand) (t : TypeId)
    (ho : o.op = .call { callee := .builtin .append, args := #[s, x], argTypes := #[t, t] })
    (base : Nat) (e : TypeId) (i : TypeInfo) (z : Value) (size bytes : Nat) (ht : P.underlying t = some (.slice e)) (hi : P.info? e = some i) (hz : i.zero = some z)
    (hsize : i.size = size) (hby : i.bytes = bytes) (hzs : z.cells.size = size) (hsz : 0 < size)
    (v : Value) (n : Nat) (xs : List Value) (hs : a.eval s = v) (hown : w.ownsRow base e size v n xs)
    (ad : Addr) (m c : Nat) (news : List Value) (hx : a.eval x = .slice (some ad) m c) (hl : news.length = m * size) (hnews : ∀ j u, news[j]? = some u → w.cell? (ad.add j) = some u) (h1 : ∀ u ∈ news, u.oneCell' = true)
    (h63 : n + m ≤ maxLen) (hbytes : (n + m) * bytes ≤ 140737488355328) (hbase : base ≤ w.heap.size)
    (h : ∀ v' w', w'.ownsRow base e size v' (n + m) (xs ++ news) → w.grownBy w' v.ownBlock → (∀ k, v'.ownBlock = some k → v.ownBlock = some k ∨ w.heap.size ≤ k) → wpList P ops Q rest (a.put o.dst v') w') : wpList P ops Q (o :: rest) a w := by
  refine wpList_plain hgd fun _ hK => ?_
  obtain ⟨v', w', hr, h2, h3, h4, h5⟩ := run_append_ownB (P := P) w base t o.type e i z size bytes ht hi hz hsize hby hzs hsz v n xs hown ad m c news hl hnews h1 h63 hbytes hbase
  unfold Oper.wp execOp
  simp only [ho, resolve, invoke, builtin, Sem.run_bind, Sem.run_pure, Result.andThen_ok, List.map_toArray, List.map_cons, List.map_nil, hs, hx, hr]
  exact hK _ _ (h v' w' h2 h3 h5)
end Go.Proofs.Ytbikpadjmmgpcaa
namespace Go.Proofs.Ytbikpadjmmgpcaa
open Go.RowKit Go.Shelf Go.Sort Go.Lib
set_option linter.unusedVariables false
set_option linter.unusedSimpArgs false
attribute [local go_sem] Oper.semAt_some
attribute [local go_sem ↓] Go.wp_at_zero Go.wp_at_succ
/-- The list that Symmetries collects: its box is the block B. -/
def SymInv (B : Nat) (pre : List Mv) (W : World) : Prop := ∃ v, W.heap[B]? = some (.cells #[v] 50) ∧ W.ownsRow (B + 1) 54 4 v pre.length (mvCells pre)
def SymOwn (B : Nat) (W : World) (k : Nat) : Prop := k = B ∨ ∃ v, W.heap[B]? = some (.cells #[v] 50) ∧ v.ownBlock = some k
theorem row_same {W W' : World} {base e size n : Nat} {v : Value} {xs : List Value} (h : W.ownsRow base e size v n xs) (hk : ∀ k, v.ownBlock = some k → W'.heap[k]? = W.heap[k]?) : W'.ownsRow base e size v n xs := by
  refine ⟨h.1, ?_⟩
  rcases h.2 with h' | ⟨g', cap, cur, hv, hb, hh, r⟩
  · exact .inl h'
  · exact .inr ⟨g', cap, cur, hv, hb, (hk g' (by rw [hv]; rfl)).trans hh, r⟩
theorem slice_formG {w : World} {base e size n : Nat} {v : Value} {xs : List Value} (h : w.ownsRow base e size v n xs) : ∃ A c, v = .slice A n c := by
  rcases h.2 with ⟨rfl, rfl⟩ | ⟨g, cap, cur, rfl, _⟩
  · exact ⟨none, 0, rfl⟩
  · exact ⟨_, cap, rfl⟩
theorem sym_unique {B : Nat} {W : World} {v v' : Value} {t : TypeId} (h : W.heap[B]? = some (.cells #[v] t)) (h' : W.heap[B]? = some (.cells #[v'] t)) : v = v' := by
  rw [h] at h'
  injection h' with h'
  injection h' with h'
  injection h' with h'
  injection h' with h'
set_option maxRecDepth 100000 in
set_option maxHeartbeats 1000000 in
theorem sym_call (B : Nat) (pre : List Mv) (x : Mv) (W : World) (n0 : Nat) (hB : n0 ≤ B) (h : SymInv B pre W) (hl : pre.length ≤ 10000) :
    Calls Try.prog 40 #[x.val, .pointer (some ⟨B, 0, none⟩)] W fun e w' => e = .returned (.bool true) ∧ SymInv B (pre ++ [x]) w' ∧ Below n0 W w' ∧ Saves (SymOwn B) W w' ∧ ∀ k, SymOwn B w' k → SymOwn B W k ∨ W.heap.size ≤ k := by
  obtain ⟨v, hbx, hrow⟩ := h
  obtain ⟨xc, xt, xm, xb⟩ := x
  show Calls Try.prog 40 #[.agg #[.int .i64 xc, .int .i64 xt, .bool xm, .bool xb], .pointer (some ⟨B, 0, none⟩)] W _
  have hBl := (Array.getElem?_eq_some_iff.1 hbx).1
  have hc := cell0 hbx
  have hf := frozen0 hbx 0
  obtain ⟨mi, hmi, hz0, hz1, hzb⟩ := info_parts mvInfo
  have hnew := new4 (W.alloc (.cells #[.int .i64 xc, .int .i64 xt, .bool xm, .bool xb] 54)) ⟨xc, xt, xm, xb⟩ 54
  have hen := enc_one ⟨xc, xt, xm, xb⟩
  have hmv : (Mv.enc ⟨xc, xt, xm, xb⟩) = [.int .i64 xc, .int .i64 xt, .bool xm, .bool xb] := rfl
  rw [hmv] at hnew hen
  have hbx' := Lib.hid hbx
  have hrow' := Lib.hid hrow
  have hz0' := Lib.hid hz0
  have hz1' := Lib.hid hz1
  have hzb' := Lib.hid hzb
  have hnew' := Lib.hid hnew
  have hen' := Lib.hid hen
  have hmv' := Lib.hid hmv
  clear hmv hen hnew hzb hz1 hz0 hrow hbx
  go_enter Try.func40, Try.ntmps40
  go_wp2_with (first | (at_builtin; go_must (refine wpList_append_ownB _ rfl _ _ 50 rfl (B + 1) 54 mi _ 4 24 Try.underlying50 hmi hz0'.out hz1'.out hzb'.out rfl (by decide) v pre.length (mvCells pre) rfl ((hrow'.out.alloc _).alloc _) ⟨W.heap.size + 1, 0, none⟩ 1 1 [.int .i64 xc, .int .i64 xt, .bool xm, .bool xb] rfl rfl (by have h := hnew'.out; simp only [World.size_alloc] at h; exact h) hen'.out (by unfold maxLen; omega) (by omega) (by simp; omega) ?_)))
  · intro v4 W4 hown4 hg4 hwh4
    obtain ⟨A4, c4, rfl⟩ := slice_formG hown4
    have hlt := hrow'.out.lt
    have hg0 : W.grownBy W4 v.ownBlock := ⟨hg4.os, hg4.tape, hg4.output, by have := hg4.size; simp at this; omega, fun k hk hne => (hg4.block k (by simp; omega) hne).trans ((alc2 W _ _).block k hk)⟩
    have hneB : some B ≠ v.ownBlock := fun e => by have := (hlt B e.symm).1; omega
    have hb4 : W4.heap[B]? = _ := (hg0.block B hBl hneB).trans hbx'.out
    have hc4 := cell0 hb4
    have hf4 := frozen0 hb4 0
    have hcat : mvCells (pre ++ [⟨xc, xt, xm, xb⟩]) = mvCells pre ++ [.int .i64 xc, .int .i64 xt, .bool xm, .bool xb] := by rw [mvCells_snoc]; rfl
    have hlen : (pre ++ [(⟨xc, xt, xm, xb⟩ : Mv)]).length = pre.length + 1 := by simp
    replace hown4 : W4.ownsRow (B + 1) 54 4 (.slice A4 (pre.length + 1) c4) (pre ++ [(⟨xc, xt, xm, xb⟩ : Mv)]).length (mvCells (pre ++ [⟨xc, xt, xm, xb⟩])) := by rw [hlen, hcat]; exact hown4
    clear hc hf
    have hown4' := Lib.hid hown4
    have hg4' := Lib.hid hg4
    have hwh4' := Lib.hid hwh4
    have hlt' := Lib.hid hlt
    have hg0' := Lib.hid hg0
    have hneB' := Lib.hid hneB
    have hb4' := Lib.hid hb4
    have hcat' := Lib.hid hcat
    have hlen' := Lib.hid hlen
    clear hlen hcat hb4 hneB hg0 hlt hwh4 hg4 hown4
    go_wp2
    go_ret
    have hset := heap_setAt (i := 0) (u := .slice A4 (pre.length + 1) c4) hb4'.out
    have hBz : (W4.setCell ⟨B, 0, none⟩ (.slice A4 (pre.length + 1) c4)).heap[B]? = some (.cells #[.slice A4 (pre.length + 1) c4] 50) := hset
    refine ⟨rfl, ⟨_, hBz, own_apart (B := B) (k := 0) hown4'.out (show B < B + 1 by omega) _⟩, ?_, ?_, ?_⟩
    · exact ((Below.refl n0 W).grown hg0'.out (by omega) (fun k e => by have := (hlt'.out k e).1; omega)).setCell (p := ⟨B, 0, none⟩) hB _
    · intro k hk hno
      have hkB : k ≠ B := fun e => hno (.inl e)
      have hkv : some k ≠ v.ownBlock := fun e => hno (.inr ⟨v, hbx'.out, e.symm⟩)
      exact (Below.heap_setCell W4 ⟨B, 0, none⟩ _ k hkB).trans (hg0'.out.block k hk hkv)
    · rintro k (rfl | ⟨v5, h5, h6⟩)
      · exact .inl (.inl rfl)
      · obtain rfl := sym_unique hBz h5
        rcases hwh4'.out k h6 with h | h
        · exact .inl (.inr ⟨v, hbx'.out, h⟩)
        · exact .inr (by omega)
theorem sym_recv (n0 B : Nat) (hB : n0 ≤ B) : Recv Try.prog n0 40 #[.pointer (some ⟨B, 0, none⟩)] true (SymOwn B) (SymInv B) where
  enters := enters_of Try.func40 (by kernel_rfl) rfl
  own := by
    rintro pre W k ⟨v, hbx, hrow⟩ (rfl | ⟨v', hb', hk⟩)
    · exact ⟨hB, (Array.getElem?_eq_some_iff.1 hbx).1⟩
    · obtain rfl := sym_unique hbx hb'
      have := hrow.lt k hk
      omega
  cells := by
    rintro pre W k ⟨v, hbx, hrow⟩ (rfl | ⟨v', hb', hk⟩)
    · exact ⟨_, hbx, rfl⟩
    · obtain rfl := sym_unique hbx hb'
      rcases hrow.2 with ⟨rfl, _⟩ | ⟨g, cap, cur, rfl, _, hh, _⟩
      · simp [Value.ownBlock] at hk
      · have : g = k := by simpa [Value.ownBlock] using hk
        subst this
        exact ⟨_, hh, rfl⟩
  frame := by
    rintro pre W W' ⟨v, hbx, hrow⟩ hs hk
    have hb' : W'.heap[B]? = some (.cells #[v] 50) := (hk B (.inl rfl)).trans hbx
    refine ⟨⟨v, hb', row_same hrow fun k h => hk k (.inr ⟨v, hbx, h⟩)⟩, ?_⟩
    rintro k (rfl | ⟨v', h', hv⟩)
    · exact .inl rfl
    · obtain rfl := sym_unique hb' h'
      exact .inr ⟨v, hbx, hv⟩
  call := fun pre x W h hl => sym_call B pre x W n0 hB h hl
def symL (p : Prog) : List Mv := if progE p = 0 then allMv p p 3 else []
theorem symL_le (p : Prog) (h : progE p = 0) : (symL p).length ≤ 4608 := by
  unfold symL
  rw [if_pos h]
  unfold allMv
  have h1 := preMv_length p p 3 (closeN p) (closeN p)
  have h2 := (close_le (benchFacts h)).2.2.2
  split
  · omega
  · simp
set_option maxHeartbeats 1000000 in
theorem pf_pat_Symmetries (v : Value) (p : Prog) (w : World) (hv : IsProg w v p) (E : Int) (hE : progE p = E) :
    Calls Try.prog 16 #[v] w fun e w' => ∃ v', e = .returned (.tuple #[v', .int .i64 E]) ∧ Below w.heap.size w w' ∧ w'.ownsRow w.heap.size 54 4 v' (symL p).length (mvCells (symL p)) := by
  have hp0 := Lib.hid hv
  obtain ⟨v0, v1, v5, rfl, h0, h1, h5⟩ := hv
  clear h0 h1 h5
  by_cases hE0 : E = 0
  · subst hE0
    have hp := benchFacts hE
    have hsl : symL p = gotMv true (allMv p p 3) := by unfold symL; rw [if_pos hE]; rfl
    rw [hsl]
    have hE' := Lib.hid hE
    have hp' := Lib.hid hp
    have hsl' := Lib.hid hsl
    clear hsl hp hE
    go_enter Try.func16, Try.ntmps16
    go_wp2_with (first | (go_at_call 33; ((with_reducible refine (pf_mounted _ p _ (hp0.out.below (alc1 _ _)) 0 hE'.out).mono ?_); rintro e w' ⟨vb, rfl, hb1, -, hok⟩; obtain ⟨b, rfl, -, hbench⟩ := hok rfl; have hB1 := Lib.hid hbench; have hb2 := (alc1 w (.cells #[v0, v1, .int .i64 p.start, .int .i64 p.throw, .int .i64 p.adv, v5] 42)).trans (hb1.mono (by simp)); have hz1 := hb2.size; clear hb1 hok hbench)))
    have hsc : Calls Try.prog 39 #[.pointer (some ⟨b, 0, none⟩), .pointer (some ⟨b, 0, none⟩), .int .u8 3, .func (.func 40) #[] #[.pointer (some ⟨w'.heap.size, 0, none⟩)]] (w'.alloc (.cells #[.slice none 0 0] 50)) fun e w2 => e = .returned (.tuple #[]) ∧ Below w'.heap.size w' w2 ∧ SymInv w'.heap.size (gotMv true (allMv p p 3)) w2 :=
      pf_search p p b b 3 40 #[.pointer (some ⟨w'.heap.size, 0, none⟩)] true (SymOwn w'.heap.size) (SymInv w'.heap.size) w' _ hB1.out hB1.out hp'.out hp'.out (by omega) (sym_recv _ _ (Nat.le_refl _)) (alc1 _ _) ⟨_, alc_at _ _, World.ownsRow_nil _ _ _ _⟩
    have hb2' := Lib.hid hb2
    have hz1' := Lib.hid hz1
    have hsc' := Lib.hid hsc
    clear hsc hz1 hb2
    go_wp2_with (first | (go_at_call 39; ((with_reducible refine (hsc'.out).mono ?_); rintro e w' ⟨rfl, hb3, hI⟩; obtain ⟨vv, hbx, hrw⟩ := hI; obtain ⟨A4, c4, rfl⟩ := slice_formG hrw; have hcx := cell0 hbx; have hrw' := Lib.hid hrw; have hb3' := Lib.hid hb3; clear hrw hb3 hbx)))
    go_ret2
    exact ⟨_, rfl, hb2'.out.trans (hb3'.out.mono hz1'.out), own_base hrw'.out (by have := hz1'.out; omega)⟩
  · have hne : (E != 0) = true := by simpa using hE0
    have hs0 : symL p = [] := by unfold symL; rw [hE, if_neg hE0]
    rw [hs0]
    have hE' := Lib.hid hE
    have hE0' := Lib.hid hE0
    clear hE0 hE
    go_enter Try.func16, Try.ntmps16
    go_wp2_with (first | (go_at_call 33; ((with_reducible refine (pf_mounted _ p _ (hp0.out.below (alc1 _ _)) E hE'.out).mono ?_); rintro e w' ⟨vb, rfl, hb1, hnil, -⟩; obtain rfl := hnil hE0'.out; have hb2 := (alc1 w (.cells #[v0, v1, .int .i64 p.start, .int .i64 p.throw, .int .i64 p.adv, v5] 42)).trans (hb1.mono (by simp)); clear hb1 hnil)))
    go_ret2
    exact ⟨_, rfl, hb2, World.ownsRow_nil _ _ _ _⟩
end Go.Proofs.Ytbikpadjmmgpcaa
namespace Go.Proofs.Ytbikpadjmmgpcaa
open Go.RowKit Go.Shelf Go.Sort Go.Lib
set_option linter.unusedVariables false
set_option linter.unusedSimpArgs false
/-- The slice v reads, in the world w, as the list of moves L. -/
def Mvs (w : World) (v : Value) (L : List Mv) : Prop :=
  ∃ A c, v = .slice A L.length c ∧ L.length ≤ 1000000 ∧ (0 < L.length → ∃ b, A = some ⟨b, 0, none⟩ ∧ b < w.heap.size ∧ ∀ i (h : i < L.length), w.cell? ⟨b, i * 4, none⟩ = some (.int .i64 L[i].cuts) ∧ w.cell? ⟨b, i * 4 + 1, none⟩ = some (.int .i64 L[i].turn) ∧ w.cell? ⟨b, i * 4 + 2, none⟩ = some (.bool L[i].mirror) ∧ w.cell? ⟨b, i * 4 + 3, none⟩ = some (.bool L[i].back))
theorem Mvs.below {w w' : World} {v : Value} {L : List Mv} (h : Mvs w v L) (hb : Below w.heap.size w w') : Mvs w' v L := by
  obtain ⟨A, c, hv, hl, hr⟩ := h
  refine ⟨A, c, hv, hl, fun h0 => ?_⟩
  obtain ⟨b, hA, hlt, hc⟩ := hr h0
  refine ⟨b, hA, Nat.lt_of_lt_of_le hlt hb.size, fun i hi => ?_⟩
  have key : ∀ o, w'.cell? ⟨b, o, none⟩ = w.cell? ⟨b, o, none⟩ := fun o => hb.cell (p := ⟨b, o, none⟩) hlt
  rw [key, key, key, key]
  exact hc i hi
theorem Mvs.drewN {w : World} {v : Value} {L : List Mv} (h : Mvs w v L) (n : Nat) : Mvs (w.drewN n) v L := h
theorem Mvs.of_own {w : World} {base e : Nat} {v : Value} {L : List Mv} (h : w.ownsRow base e 4 v L.length (mvCells L)) (hl : L.length ≤ 1000000) : Mvs w v L := by
  have h0 := h
  rcases h.2 with ⟨rfl, h1⟩ | ⟨g, cap, cur, rfl, hb, hh, _⟩
  · exact ⟨none, 0, by rw [h1], hl, fun h => by omega⟩
  · exact ⟨_, cap, rfl, hl, fun _ => ⟨g, rfl, (Array.getElem?_eq_some_iff.1 hh).1, fun i hi => enc_cells h0 hi⟩⟩
theorem lit_moves (w : World) (L : List Mv) (cs : Array Value) (hcs : cs = (mvCells L).toArray) (e : TypeId) (hl : L.length ≤ 1000000) : Mvs (w.alloc (.cells cs e)) (.slice (some ⟨w.heap.size, 0, none⟩) L.length L.length) L := by
  refine ⟨_, _, rfl, hl, fun _ => ⟨w.heap.size, rfl, by simp, fun i hi => ?_⟩⟩
  have key : ∀ t, t < 4 → (w.alloc (.cells cs e)).cell? ⟨w.heap.size, i * 4 + t, none⟩ = some ((Mv.enc L[i])[t]!) := fun t ht => by
    rw [World.cell?_alloc_at _ _ _ _ rfl, hcs]
    simp only [List.getElem?_toArray]
    rw [mvCells_get L (i * 4 + t) (by omega)]
    have e1 : (i * 4 + t) / 4 = i := by omega
    have e2 : (i * 4 + t) % 4 = t := by omega
    rw [e1, e2, getElem!_pos L i hi]
  exact ⟨key 0 (by omega), key 1 (by omega), key 2 (by omega), key 3 (by omega)⟩
set_option maxHeartbeats 2000000 in
theorem pf_SameMoves (v v' : Value) (xs ys : List Mv) (w : World) (hx : Mvs w v xs) (hy : Mvs w v' ys) :
    Calls Try.prog 18 #[v, v'] w fun e w' => e = .returned (.bool (xs == ys)) ∧ ∃ n, w' = w.drewN n := by
  obtain ⟨A, c, rfl, hlc, hr⟩ := hx
  obtain ⟨A', c', rfl, hlc', hr'⟩ := hy
  have hr1 := Lib.hid hr
  have hr2 := Lib.hid hr'
  clear hr hr'
  by_cases hl : xs.length = ys.length
  · have hl' := Lib.hid hl
    have hl1 : ((xs.length : Int) != (ys.length : Int)) = false := by simp [hl]
    clear hl
    go_enter Try.func18, Try.ntmps18
    go_wp2
    go_loopw [5] (fun i wr => ∃ k : Nat, k ≤ xs.length ∧ i = .int .i64 k ∧ Hid (∃ n, wr = w.drewN n) ∧ Hid (xs.take k = ys.take k)) (fun i _ => xs.length - (intOf i).toNat)
    case atStart => exact ⟨0, Nat.zero_le _, rfl, ⟨0, rfl⟩, rfl⟩
    case round =>
      obtain ⟨k, hk, rfl, hdr, hpre⟩ := hrel
      obtain ⟨nd, hnd⟩ := hdr.out
      subst hnd
      by_cases hlt : k < xs.length
      · have hlt' : k < ys.length := by have := hl'.out; omega
        obtain ⟨b1, rfl, hb1, hc1⟩ := hr1.out (by omega)
        obtain ⟨b2, rfl, hb2, hc2⟩ := hr2.out (by omega)
        obtain ⟨p0, p1, p2, p3⟩ := hc1 k hlt
        obtain ⟨q0, q1, q2, q3⟩ := hc2 k hlt'
        have ht1 : xs.take (k + 1) = xs.take k ++ [xs[k]] := by rw [List.take_add_one, List.getElem?_eq_getElem hlt]; rfl
        have ht2 : ys.take (k + 1) = ys.take k ++ [ys[k]] := by rw [List.take_add_one, List.getElem?_eq_getElem hlt']; rfl
        have hnee : xs[k] ≠ ys[k] → (xs == ys) = false := fun hne => by
          rw [beq_eq_false_iff_ne]
          intro he
          subst he
          exact hne rfl
        generalize xs[k] = x at p0 p1 p2 p3 ht1 hnee
        generalize ys[k] = y at q0 q1 q2 q3 ht2 hnee
        obtain ⟨xc, xt, xm, xb⟩ := x
        obtain ⟨yc, yt, ym, yb⟩ := y
        simp only at p0 p1 p2 p3 q0 q1 q2 q3
        have i1 : (0 : Int) ≤ (k : Int) := by omega
        have i2 : (k : Int) < (xs.length : Int) := by omega
        have i3 : (k : Int) < (ys.length : Int) := by omega
        clear hc1 hc2 hdr
        have ht1' := Lib.hid ht1
        have ht2' := Lib.hid ht2
        have hnee' := Lib.hid hnee
        clear hnee ht2 ht1
        by_cases hxy : xc = yc ∧ xt = yt ∧ xm = ym ∧ xb = yb
        · obtain ⟨rfl, rfl, rfl, rfl⟩ := hxy
          go_wp2
          go_quiet (fail)
          go_wp2
          go_roundw
          case rel => exact ⟨k + 1, by omega, by go_num, ⟨_, rfl⟩, by rw [ht1'.out, ht2'.out, hpre.out]; exact rfl⟩
          case measure => simp [intOf]; omega
        · have hne' := Lib.hid (hnee'.out (fun e => hxy (by injection e with e1 e2 e3 e4; exact ⟨e1, e2, e3, e4⟩)))
          have hne2 : (((xc == yc) && ((xt == yt) && ((xm == ym) && (xb == yb)))) = false) := by
            rw [Bool.eq_false_iff]
            intro h
            simp only [Bool.and_eq_true, beq_iff_eq] at h
            exact hxy h
          clear hxy hnee'
          obtain ⟨b0, hb0⟩ : ∃ b, (xc == yc) = b := ⟨_, rfl⟩
          obtain ⟨b3, hb3⟩ : ∃ b, (xt == yt) = b := ⟨_, rfl⟩
          obtain ⟨b4, hb4⟩ : ∃ b, (xm == ym) = b := ⟨_, rfl⟩
          obtain ⟨b5, hb5⟩ : ∃ b, (xb == yb) = b := ⟨_, rfl⟩
          rw [hb0, hb3, hb4, hb5] at hne2
          have hne2' := Lib.hid hne2
          clear hne2
          cases b0 <;> cases b3 <;> cases b4 <;> cases b5 <;> first | (exact absurd hne2'.out (by decide)) | skip
          all_goals
            clear hne2'
            go_wp2
            go_quiet (fail)
            go_wp2
            go_ret
            exact ⟨ret_bool (by rw [hne'.out]), ⟨_, World.drewN_drewN _ _ _⟩⟩
      · have he : (xs == ys) = true := by
          rw [beq_iff_eq]
          have h := hpre.out
          rwa [List.take_of_length_le (by omega), List.take_of_length_le (by have := hl'.out; omega)] at h
        have he' := Lib.hid he
        clear he
        go_wp2
        go_ret
        exact ⟨ret_bool (by rw [he'.out]), ⟨nd, rfl⟩⟩
  · have hl1 : ((xs.length : Int) != (ys.length : Int)) = true := by simp; omega
    have he : (xs == ys) = false := by
      rw [beq_eq_false_iff_ne]
      intro h
      exact hl (by rw [h])
    rw [he]
    clear he hl
    go_enter Try.func18, Try.ntmps18
    go_wp2
    go_ret
    exact ⟨rfl, ⟨0, rfl⟩⟩
end Go.Proofs.Ytbikpadjmmgpcaa
