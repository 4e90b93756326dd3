/- barleycornref01: InTurn, OutTurn. barleycornref01: pair, CheckTurn, Norm. barleycornref01: SameTurn, GreatTurn. -/
import Derived.Test.YtbikpadjmmgpcaaGreatTurnKit
import Derived.Test.YtbikpadjmmgpcaaGreatTrnR
namespace Go.Proofs.YtbikpadjmmgpcaaGreat
open Go.RowKit Go.Shelf
set_option linter.unusedVariables false
set_option linter.unusedSimpArgs false
set_option maxRecDepth 100000 in
set_option maxHeartbeats 4000000 in
theorem pf_n_InTurn (x : FracA × FracA) (v : Value) (w : World) (h : IsTurnA w v x) : Calls Tryz.prog 82 #[v] w (InPostN x w) := by
  obtain ⟨x1A, x1c, x1B, x1d, x2A, x2c, x2B, x2d, rfl, p1, p2⟩ := h
  obtain ⟨W0, hW0, hsz, hle, k0, k1⟩ := new2_le w (.cells #[.bool x.1.sn, .slice x1A x.1.gn.length x1c, .bool x.1.sd, .slice x1B x.1.gd.length x1d, .bool x.2.sn, .slice x2A x.2.gn.length x2c, .bool x.2.sd, .slice x2B x.2.gd.length x2d] 49) (.cells #[.bool false, .slice none 0 0, .slice none 0 0, .bool false, .slice none 0 0, .slice none 0 0] 114)
  obtain ⟨a0, a1, a2, a3, a4, a5, a6, a7⟩ := cells8 k0
  have hbo := pf_n_both (fun _ => True) (fun _ => True) x.1 x.2 _ _ W0 (Up.any _) (p1.le hle) (p2.le hle)
  obtain ⟨bb, hbb⟩ : ∃ b, (okA x.1 && okA x.2) = b := ⟨_, rfl⟩
  have htb : (tval x).isSome = bb := (tval_both x).trans hbb
  unfold BothPost at hbo
  rw [hbb] at hbo
  unfold InPostN
  rw [htb]
  have hle' := Lib.hid hle
  have k0' := Lib.hid k0
  have k1' := Lib.hid k1
  have p1' := Lib.hid p1
  have p2' := Lib.hid p2
  have hbo' := Lib.hid hbo
  have hbb' := Lib.hid hbb
  have htb' := Lib.hid htb
  clear htb hbb hbo p2 p1 k1 k0 hle
  go_enter Tryz.func82, Tryz.ntmps82
  go_wp2_with (fail)
  clear hW0
  go_at_call 98
  refine hbo'.out.mono ?_
  rintro e W1 ⟨hle1, vx, vy, rfl, ⟨ps1, pA1, pn1, pc1, pB1, pm1, pd1, rfl⟩, ⟨ps2, pA2, pn2, pc2, pB2, pm2, pd2, rfl⟩, hrx, hry⟩
  obtain ⟨V, hV, hsV, hle2, j0, j1⟩ := new2_le W1 (.cells #[.bool ps1, .slice pA1 pn1 pc1, .slice pB1 pm1 pd1] 61) (.cells #[.bool ps2, .slice pA2 pn2 pc2, .slice pB2 pm2 pd2] 61)
  have hcc : TurnC V (.agg #[.bool ps1, .slice pA1 pn1 pc1, .slice pB1 pm1 pd1, .bool ps2, .slice pA2 pn2 pc2, .slice pB2 pm2 pd2]) x := ⟨⟨_, _, _, _, _, _, _, _, _, _, _, _, _, _, rfl⟩, fun gg hg => TurnL.mk ((hrx _ (tval_parts hg).1).le hle2) ((hry _ (tval_parts hg).2).le hle2)⟩
  obtain ⟨c0, c1, c2, -⟩ := cells3 j0
  obtain ⟨d0, d1, d2, -⟩ := cells3 j1
  have hlV := (hle'.out.trans hle1).trans hle2
  have kV := box_later (hle1.trans hle2) k1'.out
  have hle1' := Lib.hid hle1
  have hle2' := Lib.hid hle2
  have j0' := Lib.hid j0
  have j1' := Lib.hid j1
  have hrx' := Lib.hid hrx
  have hry' := Lib.hid hry
  have hcc' := Lib.hid hcc
  have hlV' := Lib.hid hlV
  clear hlV hcc hry hrx j1 j0 hle2 hle1
  obtain ⟨z0, z1, z2, z3, z4, z5⟩ := cells6 kV
  have g0 := frozen00 kV 0
  have g1 := frozen00 kV 1
  have g2 := frozen00 kV 2
  have g3 := frozen00 kV 3
  have g4 := frozen00 kV 4
  have g5 := frozen00 kV 5
  have hle9 := fun u0 u1 u2 u3 u4 u5 => le_set6 (hlV'.out) (show w.heap.size ≤ w.heap.size + 1 by omega) u0 u1 u2 u3 u4 u5
  have hb9 := fun u0 u1 u2 u3 u4 u5 => cells6 (heap_set6 kV u0 u1 u2 u3 u4 u5)
  simp only [set6] at hb9
  have hf0 := fun u0 u1 u2 u3 u4 u5 => hcc'.out.touch (noInt6 kV) (touch_set6 V (w.heap.size + 1) u0 u1 u2 u3 u4 u5)
  have hle9' := Lib.hid hle9
  have hb9' := Lib.hid hb9
  have kV' := Lib.hid kV
  have hf0' := Lib.hid hf0
  clear hf0 kV hb9 hle9
  go_wp2
  obtain ⟨d0, d1, d2, d3, d4, d5⟩ := hb9'.out (.bool ps1) (.slice pA1 pn1 pc1) (.slice pB1 pm1 pd1) (.bool ps2) (.slice pA2 pn2 pc2) (.slice pB2 pm2 pd2)
  exact bodyPost_ret (v := .tuple #[.agg #[.bool ps1, .slice pA1 pn1 pc1, .slice pB1 pm1 pd1, .bool ps2, .slice pA2 pn2 pc2, .slice pB2 pm2 pd2], .bool bb]) (by simp [results, Tryz.results82, go_sem, d0, d1, d2, d3, d4, d5]) rfl ⟨hle9'.out _ _ _ _ _ _, _, rfl, hf0'.out _ _ _ _ _ _⟩
end Go.Proofs.YtbikpadjmmgpcaaGreat
namespace Go.Proofs.YtbikpadjmmgpcaaGreat
open Go.RowKit Go.Shelf
set_option linter.unusedVariables false
set_option linter.unusedSimpArgs false
end Go.Proofs.YtbikpadjmmgpcaaGreat
namespace Go.Proofs.YtbikpadjmmgpcaaGreat
open Go.RowKit Go.Shelf
set_option linter.unusedVariables false
set_option linter.unusedSimpArgs false
set_option maxRecDepth 100000 in
set_option maxHeartbeats 4000000 in
theorem pf_n_GreatTurn (x : FracA × FracA) (m : Nat) (v : Value) (w : World) (hm : (m : Int) ≤ 1000) (h : IsTurnA w v x) : Calls Tryz.prog 14 #[v, .int .i64 m] w fun e w' => e = .returned (.bool (greatT x m)) ∧ Le w w' := by
  obtain ⟨x1A, x1c, x1B, x1d, x2A, x2c, x2B, x2d, rfl, p1, p2⟩ := h
  obtain ⟨W0, hW0, hle, k0⟩ : ∃ V, w.alloc (.cells #[.bool x.1.sn, .slice x1A x.1.gn.length x1c, .bool x.1.sd, .slice x1B x.1.gd.length x1d, .bool x.2.sn, .slice x2A x.2.gn.length x2c, .bool x.2.sd, .slice x2B x.2.gd.length x2d] 49) = V ∧ Le w V ∧ V.heap[w.heap.size]? = some (.cells #[.bool x.1.sn, .slice x1A x.1.gn.length x1c, .bool x.1.sd, .slice x1B x.1.gd.length x1d, .bool x.2.sn, .slice x2A x.2.gn.length x2c, .bool x.2.sd, .slice x2B x.2.gd.length x2d] 49) := ⟨_, rfl, le_alloc _ _, by unfold World.alloc; exact Array.getElem?_push_size⟩
  obtain ⟨a0, a1, a2, a3, a4, a5, a6, a7⟩ := cells8 k0
  have r1 := pf_n_Great (fun _ => True) x.1 m _ W0 hm (p1.le hle)
  have r2 := fun W (hW : Le W0 W) => pf_n_Great (fun _ => True) x.2 m _ W hm (p2.le (hle.trans hW))
  obtain ⟨s1, hs1⟩ : ∃ s, greatB x.1 m = s := ⟨_, rfl⟩
  obtain ⟨s2, hs2⟩ : ∃ s, greatB x.2 m = s := ⟨_, rfl⟩
  have hT : greatT x m = (s1 || s2) := by unfold greatT; rw [hs1, hs2]
  rw [hs1] at r1
  rw [hs2] at r2
  rw [hT]
  have hle' := Lib.hid hle
  have k0' := Lib.hid k0
  have p1' := Lib.hid p1
  have p2' := Lib.hid p2
  have r1' := Lib.hid r1
  have r2' := Lib.hid r2
  have hs1' := Lib.hid hs1
  have hs2' := Lib.hid hs2
  have hT' := Lib.hid hT
  clear hT hs2 hs1 r2 r1 p2 p1 k0 hle
  cases s1
  · go_enter Tryz.func14, Tryz.ntmps14
    go_wp2_with (fail)
    clear hW0
    go_at_call 36
    refine r1'.out.mono ?_
    rintro e W1 ⟨rfl, hle1⟩
    clear a0 a1 a2 a3 a4 a5 a6 a7
    obtain ⟨a0, a1, a2, a3, a4, a5, a6, a7⟩ := cells8 (box_later hle1 k0'.out)
    have r3 := r2'.out W1 hle1
    have hle1' := Lib.hid hle1
    have r3' := Lib.hid r3
    clear r3 hle1
    go_wp2_with (fail)
    go_at_call 36
    refine r3'.out.mono ?_
    rintro e W2 ⟨rfl, hle2⟩
    have hl2 := (hle'.out.trans hle1'.out).trans hle2
    have hle2' := Lib.hid hle2
    have hl2' := Lib.hid hl2
    clear hl2 hle2
    go_wp2
    go_ret
    exact ⟨by simp, hl2'.out⟩
  · go_enter Tryz.func14, Tryz.ntmps14
    go_wp2_with (fail)
    clear hW0
    go_at_call 36
    refine r1'.out.mono ?_
    rintro e W1 ⟨rfl, hle1⟩
    have hl1 := hle'.out.trans hle1
    have hle1' := Lib.hid hle1
    have hl1' := Lib.hid hl1
    clear hl1 hle1
    go_wp2
    go_ret
    exact ⟨by simp, hl1'.out⟩
end Go.Proofs.YtbikpadjmmgpcaaGreat
