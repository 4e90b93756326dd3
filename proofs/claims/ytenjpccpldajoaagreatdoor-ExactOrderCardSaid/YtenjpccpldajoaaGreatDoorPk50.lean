/- The law ExactNearest: a fraction and the whole number nearest to it differ by a half at most. From what a row's opening gives of a slice of integers to the .. -/
import Derived.Test.YtenjpccpldajoaaGreatDoorPk49
import Derived.ProofKit
import Derived.OpenShut
import Derived.ShutString
import Derived.ChangeOld
import Derived.Below
namespace Go.Proofs.YtenjpccpldajoaaGreatDoor
set_option maxRecDepth 100000
set_option maxHeartbeats 4000000
open Go.RowKit Go.Shelf
set_option linter.unusedVariables false
set_option linter.unusedSimpArgs false
theorem qNP:halfR=1 / 2:=by unfold halfR;decide+kernel
theorem qLu {x:FracA} {r:Rat} (h:x.rat?=some r) (hg:qAo x 6=false) (hf:qCQ r=true):
  ∃z:Int,qAe x=(z,0)∧ -4611686018427387904≤z∧z≤4611686018427387904∧Rsz ((z:Rat) - r) 40∧rsgn ((z:Rat) - r - (-1 / 2))=1∧rsgn ((z:Rat) - r - 1 / 2)≤0:=by
 have hq:qBj r≤4611686018427387904:=of_decide_eq_true hf;obtain⟨z,hz⟩:∃z,qGK r=z:=⟨_,rfl⟩;have hz2:z=sg (rneg (r+halfR)) (qBj r):=by rw[←hz];unfold qGK;rw[if_pos hq]
 have hzb: -4611686018427387904≤z∧z≤4611686018427387904:=by
  rw[hz2];unfold sg
  split<;>omega
 have hn:=qNO r halfR (by rw[qNP];decide+kernel) (qLt (r+halfR) (z:=z) (by rw[hz2];rfl));rw[qNP]at hn;have hs:Rsz ((z:Rat) - r) 13:=qID (n:=6) ((qDZ z (by omega) (by omega)).up (by omega)) (qBq h hg);refine⟨z,?_,hzb.1,hzb.2,hs.up (by omega),?_,?_⟩
 ·unfold qAe;rw[h];simp only[hf,if_true,hz]
 ·have e:(z:Rat) - r - (-1 / 2)=(z:Rat) - r+1 / 2:=by grind
  rw[e];exact qKE hn.1
 ·rcases Rat.le_iff_lt_or_eq.1 hn.2 with h1|h1
  ·rw[qIo h1];decide
  ·rw[h1,qHA];decide
theorem qLv (x:FracA) (v:Value) (w:World) (h:IsFracA (fun _=>True) w v x) (hw:TxW w):
  Calls Tryz.prog 6 #[v] w fun e w'=>e= .returned (.bool true)∧Le w w':=by
 have h0:=h;obtain⟨A,c,B,d,rfl,p1,p2⟩:=h;obtain⟨W0,hW0,hle0,kx⟩:=al1 w (.cells #[.bool x.sn,.slice A x.gn.length c,.bool x.sd,.slice B x.gd.length d] 26);have q0:=qHB W0 (hw.le hle0);obtain⟨gr,hgr⟩:∃b,qAo x 6=b:=⟨_,rfl⟩;have⟨h0',p1',p2',hle0',kx',q0',hgr',hw'⟩:=hyd8 h0 p1 p2 hle0 kx q0 hgr hw;clear hw hgr q0 kx hle0 p2 p1 h0;go_enter Tryz.func6,Tryz.ntmps6;go_wp2_with (fail);clear hW0;go_at_call 8;refine q0'.out.mono ?_;rintro e W1 ⟨rfl,hle1⟩;have hl1:=hle0'.out.trans hle1;have kx1:=qCy hle1 kx'.out;obtain⟨x0,x1,x2,x3⟩:=qAA kx1;have q1:=qCP (fun _=>True) x 6 _ W1 (by decide) (h0'.out.le hl1);rw[hgr'.out]at q1;have⟨hle1',hl1',kx1',q1'⟩:=hyd4 hle1 hl1 kx1 q1;clear q1 kx1 hl1 hle1;go_wp2_with (fail);go_at_call 9;refine q1'.out.mono ?_;rintro e W2 ⟨rfl,hle2⟩;have hl2:=hl1'.out.trans hle2;have kx2:=qCy hle2 kx1'.out;clear x0 x1 x2 x3
 cases gr
 ·obtain⟨x0,x1,x2,x3⟩:=qAA kx2;have q2:=qL6 x _ W2 (h0'.out.le hl2)
  cases hr:x.rat? with
  | none=>
   have e1:qAe x=(0,10):=by unfold qAe;rw[hr]
   rw[e1]at q2;have⟨hle2',hl2',kx2',q2',e1',hr'⟩:=hyd6 hle2 hl2 kx2 q2 e1 hr;clear hr e1 q2 kx2 hl2 hle2;go_wp2_with (fail);go_at_call 20;refine q2'.out.mono ?_;rintro e W3 ⟨rfl,hle3⟩;have hle3':=hyd1 hle3;clear hle3;go_wp2;go_ret;exact⟨rfl,hl2'.out.trans hle3'.out⟩
  | some r=>
   by_cases hft:qCQ r=true
   ·obtain⟨z,e1,z1,z2,hs,s1,s2⟩:=qLu hr hgr'.out hft;rw[e1]at q2;have hxe:=qEN hr;have⟨hle2',hl2',kx2',q2',e1',hr',hft',hs'⟩:=hyd8 hle2 hl2 kx2 q2 e1 hr hft hs;have⟨s1',s2',hxe'⟩:=hyd3 s1 s2 hxe;clear hxe s2 s1 hs hft hr e1 q2 kx2 hl2 hle2;go_wp2_with (fail);go_at_call 20;refine q2'.out.mono ?_;rintro e W3 ⟨rfl,hle3⟩;have hl3:=hl2'.out.trans hle3;have kx3:=qCy hle3 kx2'.out;clear x0 x1 x2 x3;obtain⟨D,hD0⟩:∃D,(z:Rat) - r=D:=⟨_,rfl⟩;have hs9:=hs'.out;have s19:=s1'.out;have s29:=s2'.out;rw[hD0]at hs9 s19 s29;clear hs' s1' s2';have⟨hle3',hl3',kx3',hD0',hs9',s19',s29'⟩:=hyd7 hle3 hl3 kx3 hD0 hs9 s19 s29;clear s29 s19 hs9 hD0 kx3 hl3 hle3;go_wp2_with (fail);refine qB3 (R:=frRel) 9 [some 37,some 38,some 39,some 40,some 36,some 41,some 42,some 6,none,some 7] [[],[0],[],[1,2],[3],[4],[4],[],[5,7],[6]]
     [.eq (.int .i64 z),FrPred.frV (z:Rat),.eq (.agg #[.bool x.sn,.slice A x.gn.length c,.bool x.sd,.slice B x.gd.length d]),FrPred.frT D,FrPred.frT D,FrPred.frV D,.eq (.int .i64 0),MPredR.any,MPredR.any] (ABoxN W3 26) (fun _ _=>False) (by kernel_rfl) (by kernel_rfl) (by kernel_rfl) (by kernel_rfl) (by kernel_rfl) (ABoxN.start W3 26 _ (by decide)) ?_ (fun _ _ _ _ h=>h.elim) ?_
    ·simp only[List.take_succ_cons,List.take_zero];refine sGc rfl ?_ (sGc rfl ?_ (sGc rfl ?_ (sGc rfl ?_ (sGc rfl ?_ (sGc rfl ?_ (sGc rfl ?_ (sGc rfl ?_ (sGc rfl ?_ (qAR)))))))))
     ·intro Dn xv W hD hdp hR hf hG Q hK hP;simp only[fA]at hK ⊢;have hG':=hyd1 hG;clear hG;go_wp2;exact hK _ _ (qCg (Le.refl _)) rfl (hG'.out.keep rfl (Le.refl _))
     ·intro Dn xv W hD hdp hR hf hG Q hK hP;obtain⟨e0,-⟩:=hf;change _=_ at e0;simp only[fA,e0]at hK ⊢;have hG':=hyd1 hG;clear hG;go_wp2_with (fail);go_at_call 19;refine(qFL (fun _=>True) z W (Up.any _) (by omega) (by omega)).mono ?_;rintro e w' ⟨v1,rfl,y1,y2⟩;have y3:=y2;obtain⟨f1,f2,f3,f4,f5,f6,f7,f8,rfl⟩:=y2.fform;have⟨y2',y3',y1'⟩:=hyd3 y2 y3 y1;clear y1 y3 y2;go_wp2;exact hK _ _ (qCg y1'.out) y3'.out (hG'.out.keep rfl y1'.out)
     ·intro Dn xv W hD hdp hR hf hG Q hK hP;have hRb:=hG.1;obtain⟨a0,a1,a2,a3⟩:=qAA (qCy hRb kx3'.out);simp only[fA]at hK ⊢;have⟨hG',hRb'⟩:=hyd2 hG hRb;clear hRb hG;go_wp2;exact hK _ _ (qCg (Le.refl _)) rfl (hG'.out.keep rfl (Le.refl _))
     ·intro Dn xv W hD hdp hR hf hG Q hK hP;obtain⟨e0,e1,-⟩:=hf;replace e0:qBI W (xv 1) (z:Rat):=e0;change _=_ at e1;have hRb:=hG.1;have q:=qMg (fun _=>True) (qAE (z:Rat)) x (xv 1) (.agg #[.bool x.sn,.slice A x.gn.length c,.bool x.sd,.slice B x.gd.length d]) W (Up.any _) (FracL.isA e0) (h0'.out.le (hl3'.out.trans hRb));rw[qEZ (qAQ ((qDZ z (by omega) (by omega)).up (by omega))) hr'.out,hD0'.out,qAj hs9'.out]at q;obtain⟨f1,f2,f3,f4,f5,f6,f7,f8,qv⟩:=FracL.fform e0;rw[qv]at q;simp only[fA,qv,e1]at hK ⊢;clear e0 qv;have⟨hG',hRb',q'⟩:=hyd3 hG hRb q;clear q hRb hG;go_wp2_with (fail);go_at_call 16;refine q'.out.mono ?_;rintro e w' ⟨y1,v2,c2,rfl,y2,rfl⟩;have y3:=y2;obtain⟨g1,g2,g3,g4,g5,g6,g7,g8,rfl⟩:=y2.fform;have⟨y2',y3',y1'⟩:=hyd3 y2 y3 y1;clear y1 y3 y2;go_wp2;exact hK _ _ (qCg y1'.out) ⟨_,rfl,y3'.out⟩ (hG'.out.keep rfl y1'.out)
     ·intro Dn xv W hD hdp hR hf hG Q hK hP;obtain⟨e0,-⟩:=hf;replace e0:∃v',(xv 3)= .tuple #[v',.int .i64 0]∧qBI W v' D:=e0;obtain⟨vv,qv,hv1⟩:=e0;have hv2:=hv1;obtain⟨f1,f2,f3,f4,f5,f6,f7,f8,rfl⟩:=hv1.fform;clear hv1;have hv2':=hyd1 hv2;clear hv2;simp only[fA,qv]at hK ⊢;clear qv;have hG':=hyd1 hG;clear hG;go_wp2;exact hK _ _ (qCg (Le.refl _)) ⟨_,rfl,hv2'.out⟩ (hG'.out.keep rfl (Le.refl _))
     ·intro Dn xv W hD hdp hR hf hG Q hK hP;obtain⟨e0,-⟩:=hf;replace e0:∃v',(xv 4)= .tuple #[v',.int .i64 0]∧qBI W v' D:=e0;obtain⟨vv,qv,hv1⟩:=e0;have hv2:=hv1;obtain⟨f1,f2,f3,f4,f5,f6,f7,f8,rfl⟩:=hv1.fform;clear hv1;have hv2':=hyd1 hv2;clear hv2;simp only[fA,qv]at hK ⊢;clear qv;have hG':=hyd1 hG;clear hG;go_wp2;exact hK _ _ (qCg (Le.refl _)) hv2'.out (hG'.out.take hD)
     ·intro Dn xv W hD hdp hR hf hG Q hK hP;obtain⟨e0,-⟩:=hf;replace e0:∃v',(xv 4)= .tuple #[v',.int .i64 0]∧qBI W v' D:=e0;obtain⟨vv,qv,hv1⟩:=e0;have hv2:=hv1;obtain⟨f1,f2,f3,f4,f5,f6,f7,f8,rfl⟩:=hv1.fform;clear hv1;have hv2':=hyd1 hv2;clear hv2;simp only[fA,qv]at hK ⊢;clear qv;have hG':=hyd1 hG;clear hG;go_wp2;exact hK _ _ (qCg (Le.refl _)) rfl (hG'.out.keep rfl (Le.refl _))
     ·intro Dn xv W hD hdp hR hf hG Q hK hP;simp only[fA]at hK ⊢;have hG':=hyd1 hG;clear hG;go_wp2;exact hK _ _ (qCg (qAB _ _)) trivial (hG'.out.make hD)
     ·intro Dn xv W hD hdp hR hf hG Q hK hP;obtain⟨e0,e1,-⟩:=hf;have d29:=hdp 5 (by decide);have d31:=hdp 7 (by decide);replace e0:qBI W (xv 5) D:=e0;obtain⟨kb,qb,hkb,hxb⟩:=hG.ready d31 hD;obtain⟨f1,f2,f3,f4,f5,f6,f7,f8,qv⟩:=FracL.fform e0;have hput:=hG.put (v:=undef) d31 d29 qb hkb hxb qv;simp only[fA,qv,qb]at hK ⊢;obtain⟨z0,z1,z2,z3⟩:=qAA hxb;have⟨y0,y1,y2,y3⟩:=frz4 hxb;clear qv qb;clear e0 e1;have⟨hput',hG',hxb'⟩:=hyd3 hput hG hxb;clear hxb hG hput;go_wp2;exact hK undef _ hput'.out.2 trivial hput'.out.1
    intro Dn xv V1 hD hR hf hG Q' hQ1 _;have e2:qBI V1 (xv 5) D:=hf 5 (by decide);have e1:xv 6= .int .i64 0:=hf 6 (by decide);obtain⟨kb1,qb,hkb,g11,g12,g13,g14,g15,g16,g17,g18,qv,kV1⟩:=hG.full (hD 7 (by decide)) (hD 8 (by decide));have hleV1:=hG.1;rw[qv]at e2;have frV1:=e2;simp only[List.drop_succ_cons,List.drop_zero];rw[show List.range 9=[0,1,2,3,4,5,6,7,8]from rfl];simp only[fA,qv,e1,qb];clear qv e1 qb hf e2 hG hD hR;have⟨hleV1',kV1',frV1'⟩:=hyd3 hleV1 kV1 frV1;clear frV1 kV1 hleV1;go_wp2;refine hQ1 _ _ ?_;clear hQ1;have hlV:=hl3'.out.trans hleV1'.out;have hlV':=hyd1 hlV;clear hlV;go_wp2_with (fail);have hok:∀q:Rat,(qAL q).length ≤200→okE (okAF (qAE D)&&okAF (qAE q))=0:=fun q hq=>by rw[qJW hs9'.out,qJW (qBi hq)];rfl
    have c1:cmpV (qAE D) (qAE (-1 / 2))=1:=by unfold cmpV;rw[qAQ hs9'.out,qAQ (qBi (by decide+kernel))];exact s19'.out
    obtain⟨cv,hcv⟩:∃cv,cmpV (qAE D) (qAE (1 / 2))=cv:=⟨_,rfl⟩;have hcv0:cv≤0:=by rw[←hcv];unfold cmpV;rw[qAQ hs9'.out,qAQ (qBi (by decide+kernel))];exact s29'.out
    have k1:=hok (-1 / 2) (by decide+kernel);have k2:=hok (1 / 2) (by decide+kernel);have⟨hok',c1',hcv',k1',k2'⟩:=hyd5 hok c1 hcv k1 k2;clear k2 k1 hcv c1 hok;refine qAM (R:=leRel) 8 [some 44,some 45,some 46,some 43,some 47,some 48,some 8,some 9] [[],[],[0,1],[2],[3],[3],[4],[5]]
     [.eq (.agg #[.bool g11,.slice g12 g13 g14,.bool g15,.slice g16 g17 g18]),MPred.fV (-1 / 2),.eq (.tuple #[.int .i64 1,.int .i64 0]),.eq (.tuple #[.int .i64 1,.int .i64 0]),.eq (.int .i64 1),.eq (.int .i64 0),.eq (.int .i64 1),.eq (.int .i64 0)] (fun _ _=>False) (by kernel_rfl) (by kernel_rfl) (by kernel_rfl) (by kernel_rfl) (by kernel_rfl) ?_ (fun _ _ _ _ h=>h.elim) ?_
    ·simp only[List.take_succ_cons,List.take_zero];refine sMc rfl ?_ (sMc rfl ?_ (sMc rfl ?_ (sMc rfl ?_ (sMc rfl ?_ (sMc rfl ?_ (sMc rfl ?_ (sMc rfl ?_ (qAR))))))))
     ·intro xv W hR hf Q hK hP;obtain⟨a0,a1,a2,a3⟩:=qAA (qCy (show Le V1 W from hR) kV1'.out);simp only[fA]at hK ⊢;go_wp2;exact hK _ _ lrR rfl
     ·intro xv W hR hf Q hK hP;simp only[fA]at hK ⊢;have hcall:=qDi (-1 / 2) [45,49,47,50] W (hw'.out.le (hlV'.out.trans hR)) (by decide+kernel) (by decide);have hcall':=hyd1 hcall;clear hcall;go_wp2_with (fail);go_at_call 21;refine hcall'.out.mono ?_;rintro e w' ⟨v,rfl,y1,y2⟩;obtain⟨f1,f2,f3,f4,f5,f6,f7,f8,rfl⟩:=FracL.fform y2;have⟨y1',y2'⟩:=hyd2 y1 y2;clear y2 y1;go_wp2;exact hK _ _ y1'.out y2'.out
     ·intro xv W hR hf Q hK hP;obtain⟨e0,e1,-⟩:=hf;change _=_ at e0;replace e1:qBI W (xv 1) (-1 / 2):=e1;have hcall:=qBN (qAE D) (qAE (-1 / 2)) (.agg #[.bool g11,.slice g12 g13 g14,.bool g15,.slice g16 g17 g18]) (xv 1) W (FracL.isA (FracL.le frV1'.out hR)) (FracL.isA e1);rw[c1'.out]at hcall;rw[k1'.out]at hcall;simp only[fA,e0]at hK ⊢;have⟨hcall',e1'⟩:=hyd2 hcall e1;clear e1 hcall;go_wp2_with (fail);go_at_call 17;refine hcall'.out.mono ?_;rintro e w' ⟨rfl,y1⟩;have y1':=hyd1 y1;clear y1;go_wp2;exact hK _ _ y1'.out rfl
     ·intro xv W hR hf Q hK hP;obtain⟨e0,-⟩:=hf;change _=_ at e0;simp only[fA,e0]at hK ⊢;go_wp2;exact hK _ _ lrR rfl
     ·intro xv W hR hf Q hK hP;obtain⟨e0,-⟩:=hf;change _=_ at e0;simp only[fA,e0]at hK ⊢;go_wp2;exact hK _ _ lrR rfl
     ·intro xv W hR hf Q hK hP;obtain⟨e0,-⟩:=hf;change _=_ at e0;simp only[fA,e0]at hK ⊢;go_wp2;exact hK _ _ lrR rfl
     ·intro xv W hR hf Q hK hP;obtain⟨e0,-⟩:=hf;change _=_ at e0;simp only[fA,e0]at hK ⊢;go_wp2;exact hK _ _ lrR rfl
     ·intro xv W hR hf Q hK hP;obtain⟨e0,-⟩:=hf;change _=_ at e0;simp only[fA,e0]at hK ⊢;go_wp2;exact hK _ _ lrR rfl
    intro xv W hR hf Q' hQ1 _;have e0:=hf 0 (by decide);have e2:=hf 2 (by decide);have e3:=hf 3 (by decide);have e4:=hf 4 (by decide);have e5:=hf 5 (by decide);have e6:=hf 6 (by decide);have e7:=hf 7 (by decide);change _=_ at e0 e2 e3 e4 e5 e6 e7;simp only[List.drop_succ_cons,List.drop_zero];rw[show List.range 8=[0,1,2,3,4,5,6,7]from rfl];simp only[fA,e0,e2,e3,e4,e5,e6,e7];clear e0 e2 e3 e4 e5 e6 e7 hf;have hA1:=hR;clear hR;have hA1':=hyd1 hA1;clear hA1;go_wp2;refine hQ1 _ _ ?_;clear hQ1;have kV2:=qCy hA1'.out kV1'.out;have frV2:=FracL.le frV1'.out hA1'.out;have hlV2:=hlV'.out.trans hA1'.out;generalize xv 1=v91 at*;rename World=>V2
    have⟨kV2',frV2',hlV2'⟩:=hyd3 kV2 frV2 hlV2;clear hlV2 frV2 kV2;go_wp2_with (fail);refine qAM (R:=leRel) 8 [some 50,some 51,some 52,some 49,some 53,some 54,some 10,some 11] [[],[],[0,1],[2],[3],[3],[4],[5]]
     [.eq (.agg #[.bool g11,.slice g12 g13 g14,.bool g15,.slice g16 g17 g18]),MPred.fV (1 / 2),.eq (.tuple #[.int .i64 cv,.int .i64 0]),.eq (.tuple #[.int .i64 cv,.int .i64 0]),.eq (.int .i64 cv),.eq (.int .i64 0),.eq (.int .i64 cv),.eq (.int .i64 0)] (fun _ _=>False) (by kernel_rfl) (by kernel_rfl) (by kernel_rfl) (by kernel_rfl) (by kernel_rfl) ?_ (fun _ _ _ _ h=>h.elim) ?_
    ·simp only[List.take_succ_cons,List.take_zero];refine sMc rfl ?_ (sMc rfl ?_ (sMc rfl ?_ (sMc rfl ?_ (sMc rfl ?_ (sMc rfl ?_ (sMc rfl ?_ (sMc rfl ?_ (qAR))))))))
     ·intro xv W hR hf Q hK hP;obtain⟨a0,a1,a2,a3⟩:=qAA (qCy (show Le V2 W from hR) kV2'.out);simp only[fA]at hK ⊢;go_wp2;exact hK _ _ lrR rfl
     ·intro xv W hR hf Q hK hP;simp only[fA]at hK ⊢;have hcall:=qDi (1 / 2) [49,47,50] W (hw'.out.le (hlV2'.out.trans hR)) (by decide+kernel) (by decide);have hcall':=hyd1 hcall;clear hcall;go_wp2_with (fail);go_at_call 21;refine hcall'.out.mono ?_;rintro e w' ⟨v,rfl,y1,y2⟩;obtain⟨f1,f2,f3,f4,f5,f6,f7,f8,rfl⟩:=FracL.fform y2;have⟨y1',y2'⟩:=hyd2 y1 y2;clear y2 y1;go_wp2;exact hK _ _ y1'.out y2'.out
     ·intro xv W hR hf Q hK hP;obtain⟨e0,e1,-⟩:=hf;change _=_ at e0;replace e1:qBI W (xv 1) (1 / 2):=e1;have hcall:=qBN (qAE D) (qAE (1 / 2)) (.agg #[.bool g11,.slice g12 g13 g14,.bool g15,.slice g16 g17 g18]) (xv 1) W (FracL.isA (FracL.le frV2'.out hR)) (FracL.isA e1);rw[hcv'.out]at hcall;rw[k2'.out]at hcall;simp only[fA,e0]at hK ⊢;have⟨hcall',e1'⟩:=hyd2 hcall e1;clear e1 hcall;go_wp2_with (fail);go_at_call 17;refine hcall'.out.mono ?_;rintro e w' ⟨rfl,y1⟩;have y1':=hyd1 y1;clear y1;go_wp2;exact hK _ _ y1'.out rfl
     ·intro xv W hR hf Q hK hP;obtain⟨e0,-⟩:=hf;change _=_ at e0;simp only[fA,e0]at hK ⊢;go_wp2;exact hK _ _ lrR rfl
     ·intro xv W hR hf Q hK hP;obtain⟨e0,-⟩:=hf;change _=_ at e0;simp only[fA,e0]at hK ⊢;go_wp2;exact hK _ _ lrR rfl
     ·intro xv W hR hf Q hK hP;obtain⟨e0,-⟩:=hf;change _=_ at e0;simp only[fA,e0]at hK ⊢;go_wp2;exact hK _ _ lrR rfl
     ·intro xv W hR hf Q hK hP;obtain⟨e0,-⟩:=hf;change _=_ at e0;simp only[fA,e0]at hK ⊢;go_wp2;exact hK _ _ lrR rfl
     ·intro xv W hR hf Q hK hP;obtain⟨e0,-⟩:=hf;change _=_ at e0;simp only[fA,e0]at hK ⊢;go_wp2;exact hK _ _ lrR rfl
    intro xv W hR hf Q' hQ1 _;have e0:=hf 0 (by decide);have e2:=hf 2 (by decide);have e3:=hf 3 (by decide);have e4:=hf 4 (by decide);have e5:=hf 5 (by decide);have e6:=hf 6 (by decide);have e7:=hf 7 (by decide);change _=_ at e0 e2 e3 e4 e5 e6 e7;simp only[List.drop_succ_cons,List.drop_zero];rw[show List.range 8=[0,1,2,3,4,5,6,7]from rfl];simp only[fA,e0,e2,e3,e4,e5,e6,e7];clear e0 e2 e3 e4 e5 e6 e7 hf;have hA2:=hR;clear hR;have hA2':=hyd1 hA2;clear hA2;go_wp2;refine hQ1 _ _ ?_;clear hQ1;have hlV3:=hlV2'.out.trans hA2'.out;have hlV3':=hyd1 hlV3;clear hlV3;go_wp2;go_ret;exact⟨rfl,hlV3'.out⟩
   ·have e1:qAe x=(0,12):=by
     unfold qAe;rw[hr];simp only[hft]
     rfl
    rw[e1]at q2;have⟨hle2',hl2',kx2',q2',e1',hr',hft'⟩:=hyd7 hle2 hl2 kx2 q2 e1 hr hft;clear hft hr e1 q2 kx2 hl2 hle2;go_wp2_with (fail);go_at_call 20;refine q2'.out.mono ?_;rintro e W3 ⟨rfl,hle3⟩;have hle3':=hyd1 hle3;clear hle3;go_wp2;go_ret;exact⟨rfl,hl2'.out.trans hle3'.out⟩
 ·have⟨hle2',hl2',kx2'⟩:=hyd3 hle2 hl2 kx2;clear kx2 hl2 hle2;go_wp2;go_ret;exact⟨rfl,hl2'.out⟩
theorem law_ExactNearest (a0:FracA) (x0:Value) (w:World) (w0:IsFracA (fun _=>True) w x0 a0) (hTW:TxW w):
  Calls Tryz.prog 6 #[x0] w fun e w'=>e= .returned (.bool true)∧Below w.heap.size w w':=
 qLv a0 x0 w w0 hTW
open Go.RowKit
def InRow (k:IntKind) (w:World) (a:Option Addr) (len cap:Nat) (zs:List Int):Prop:=
 (a=none∧len=0∧cap=0∧zs=[])∨
 ∃x,a=some x∧len≤cap∧cap≤maxLen∧zs.length=cap∧(∀i,i<zs.length→w.cell? (x.add i)=some (.int k (zs.getD i 0)))∧∀n∈zs,(Lit.int k n).wf =true
theorem InRow.arr {k:IntKind} {w:World} {a:Option Addr} {len cap:Nat} {zs:List Int} (h:InRow k w a len cap zs):Arr (Value.int k) w (.slice a len cap) (zs.take len)∧∀n∈zs.take len,(Lit.int k n).wf =true:=by
 rcases h with⟨rfl,rfl,rfl,rfl⟩| ⟨x,rfl,hl,hm,hz,hc,hw⟩
 ·exact⟨Arr.nil _ _,by simp⟩
 ·have hlen:(zs.take len).length =len:=by simp;omega
  refine⟨⟨some x,cap,by rw[hlen],by omega,hm,fun h=>by simp at h,fun h0=>?_⟩,fun n hn=>hw n (List.mem_of_mem_take hn)⟩;rw[hlen]at h0;obtain⟨b,off,spot⟩:=x;have hc0:=hc 0 (by omega);have hspot:spot=none:=by simpa[Addr.add]using World.cell?_spot hc0
  subst hspot;refine⟨b,off,rfl,World.block_lt_of_cell? w _ hc0,fun j hj=>?_⟩;have hj':j<zs.length:=by rw[hlen]at hj;omega
  have h1:=hc j hj';have hadd:(⟨b,off,none⟩:Addr).add j=⟨b,off+j,none⟩:=by unfold Addr.add;split<;>simp_all
  rw[hadd]at h1;rw[h1];simp[hj']
open Go.RowKit Go.ChangeShapes Go.WideShapes Go.Deep
theorem qP4 {n:Int} (h:(Lit.int .u32 n).wf =true):0≤n∧n<4294967296:=by
 have h1:IntKind.u32.min≤n∧n≤IntKind.u32.max:=by simpa[Lit.wf]using h
 have e1:IntKind.u32.min=0:=by kernel_rfl
 have e2:IntKind.u32.max=4294967295:=by kernel_rfl
 rw[e1,e2]at h1;omega
theorem qOP {w:World} {v:Value} {zs:List Int} (h:Arr (Value.int .u32) w v zs) (hz:∀n∈zs,(Lit.int .u32 n).wf =true):ArrL (fun _=>True) (gv .u32) w v (zs.map Int.toNat):=by
 obtain⟨A,c,hv,h1,h2,hN,h3⟩:=h;refine⟨A,c,by rw[hv,List.length_map],by rw[List.length_map];exact h1,h2,hN,fun h0=>?_⟩;rw[List.length_map]at h0;obtain⟨b,off,ha,hlt,hc⟩:=h3 h0;refine⟨b,off,ha,trivial,hlt,fun j hj=>?_⟩;have hj2:j<zs.length:=by simpa using hj
 rw[hc j hj2];have:=(qP4 (hz _ (List.getElem_mem hj2))).1;unfold gv;rw[List.getElem_map,Int.toNat_of_nonneg this]
section
variable {H:Type} {enc:TypeId×Value→H} {w:World} {n:Nat}
theorem qKI {v:Value} {y:DataW H×List MemPlace} (h:DataW.trod enc Tryz.prog w 0 (fun _=>true) true n 22 [v]=some y):∃gs:List Nat,ArrL (fun _=>True) (gv .u32) w v gs:=by
 rcases open_ints Tryz.underlying22 Tryz.underlying92 (by kernel_rfl) h with⟨hcs,_⟩| ⟨x,l,c,zs,hcs,_,hl,hm,hz,_,hcell,hwz⟩
 ·obtain rfl:v= .slice none 0 0:=by simpa using hcs
  exact⟨[],none,0,rfl,Nat.le_refl _,Nat.zero_le _,fun _=>rfl,fun h=>absurd h (Nat.lt_irrefl 0)⟩
 ·obtain rfl:v= .slice (some x) l c:=by simpa using hcs
  have:=InRow.arr (k:= .u32) (.inr ⟨_,rfl,hl,hm,by simpa using hz,hcell,hwz⟩);exact⟨_,qOP this.1 this.2⟩
theorem qHq {v0 v1:Value} {y:DataW H×List MemPlace} (h:DataW.trod enc Tryz.prog w 0 (fun _=>true) true n 24 [v0,v1]=some y):∃(s:Bool) (gs:List Nat),v0= .bool s∧ArrL (fun _=>True) (gv .u32) w v1 gs:=by
 obtain⟨xs,m,-,-,-,hlen,hg⟩:=DataW.trod_struct Tryz.underlying24 h;obtain⟨y0,hy0⟩:∃y,xs[0]? =some y:=⟨_,List.getElem?_eq_getElem (by rw[hlen];decide)⟩;obtain⟨y1,hy1⟩:∃y,xs[1]? =some y:=⟨_,List.getElem?_eq_getElem (by rw[hlen];decide)⟩;have g0:=(hg 0 _ rfl).trans hy0;have g1:=(hg 1 _ rfl).trans hy1;obtain⟨s,e,-⟩:=DataW.trod_bool (cs:=[v0]) Tryz.underlying4 g0;obtain⟨gs,ha⟩:=qKI (v:=v1) g1;exact⟨s,gs,by simpa using e,ha⟩
theorem open_frac {r:Reach} {b0:Nat} {v:Value} {d:DataW H} {p:List MemPlace} (hv:Value.okWide Tryz.prog w r b0 26 v) (h:DataW.Trod enc Tryz.prog w 0 (fun _=>true) true 26 v d p):
  ∃a:FracA,IsFracA (fun _=>True) w v a:=by
 obtain⟨cs,rfl,hsz⟩:=okWide_struct Tryz.underlying26 hv;obtain⟨fuel,hf⟩:=h;obtain⟨xs,m,-,-,-,hlen,hg⟩:=DataW.trod_struct Tryz.underlying26 hf;obtain⟨l,rfl⟩:∃l:List Value,cs=l.toArray:=⟨cs.toList,by simp⟩
 have hl:l.length=4:=by
  have:Tryz.prog.cellsOf 26=4:=by kernel_rfl
  rw[this]at hsz;simpa using hsz
 match l,hl with
 | [v0,v1,v2,v3],_=>
  obtain⟨y0,hy0⟩:∃y,xs[0]? =some y:=⟨_,List.getElem?_eq_getElem (by rw[hlen];decide)⟩;obtain⟨y1,hy1⟩:∃y,xs[1]? =some y:=⟨_,List.getElem?_eq_getElem (by rw[hlen];decide)⟩;have g0:=(hg 0 _ rfl).trans hy0;have g1:=(hg 1 _ rfl).trans hy1;obtain⟨s,gn,rfl,ha⟩:=qHq (v0:=v0) (v1:=v1) g0;obtain⟨s',gd,rfl,hb⟩:=qHq (v0:=v2) (v1:=v3) g1;obtain⟨A,c,e1,-⟩:=id ha;obtain⟨B,c',e3,-⟩:=id hb;subst e1 e3;exact⟨⟨s,gn,s',gd⟩,A,c,B,c',rfl,ha,hb⟩
end
end Go.Proofs.YtenjpccpldajoaaGreatDoor
