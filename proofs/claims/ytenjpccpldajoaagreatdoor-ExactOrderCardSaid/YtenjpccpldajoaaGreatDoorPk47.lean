/- exact, turning numbers: CheckTurn, Norm. exact, turning numbers: Around. barleycornref01: PlusZ, Square. barleycornref01: TimesZ. barleycornref01: One, Nil. .. -/
import Derived.Test.YtenjpccpldajoaaGreatDoorPk46
import Derived.Test.YtenjpccpldajoaaGreatDoorPk37
namespace Go.Proofs.YtenjpccpldajoaaGreatDoor
set_option maxRecDepth 100000
set_option maxHeartbeats 4000000
open Go.RowKit Go.Shelf
set_option linter.unusedVariables false
set_option linter.unusedSimpArgs false
theorem qJB:qAF Tryz.prog 85:=fun _ _=>by kernel_rfl
theorem qLn (n d:Int) (Bn Bd:Nat) (t:TypeId) (w:World) (hn0: -9223372036854775808≤n) (hn1:n≤9223372036854775807) (hd0: -9223372036854775808≤d) (hd1:d≤9223372036854775807) (hnz:¬(n=0∧d=0)) (kn:w.heap[Bn]? =some (.cells #[.int .i64 n] t)) (kd:w.heap[Bd]? =some (.cells #[.int .i64 d] t)):
  Calls Tryz.prog 85 #[.pointer (some ⟨Bd,0,none⟩),.pointer (some ⟨Bn,0,none⟩)] w (OperPostT (outG (gdiv (ndG n d) (qA8 (ndG n d)))) w):=by
 obtain⟨W0,hW0,hle,k0⟩:=al1 w (.cells #[.bool false,.slice none 0 0,.bool false,.slice none 0 0,.bool false,.slice none 0 0,.bool false,.slice none 0 0] 56);have hbn:=(gsl kn);have hbd:=(gsl kd);have cn0:=qAC (bxl hle kn);have cd0:=qAC (bxl hle kd);have hs0:=hle.size;have hsz:=qPY hn0 hn1 hd0 hd1;have hnm:=qOB hnz;have⟨hle',k0',kn',kd',hsz',hnm',hnz'⟩:=hyd7 hle k0 kn kd hsz hnm hnz;clear hnz hnm hsz kd kn k0 hle;go_enter Tryz.func85,Tryz.ntmps85;go_wp2_with (fail);clear hW0;refine qAP (R:=leRel) 6 [some 4,some 5,some 6,some 7,some 8,some 3,none] [[],[0],[],[2],[1,3],[],[4,5]]
  [.eq (.int .i64 d),MPred.ratT .u32 ((d:Rat)),.eq (.int .i64 n),MPred.ratT .u32 ((n:Rat)),MPred.turn .u32 (ndG n d),MPred.box W0.heap.size (.cells #[.bool false,.slice none 0 0,.slice none 0 0,.bool false,.slice none 0 0,.slice none 0 0] 120)] (fun _ _=>False) (by kernel_rfl) (by kernel_rfl) (by kernel_rfl) (by kernel_rfl) ?_ (fun _ _ _ _ _ h=>h.elim) ?_
 ·simp only[List.take_succ_cons,List.take_zero];refine mSc ?_ (mSc ?_ (mSc ?_ (mSc ?_ (mSc ?_ (mSc ?_ (qAS))))))
  ·refine mSl rfl fun xv W hR hf Q hK hP=>?_;have cc0:=bcl hR (by omega) cd0;simp only[fA]at hK ⊢;go_wp2;exact hK _ _ lrR rfl
  ·refine mSl rfl fun xv W hR hf Q hK hP=>?_;obtain⟨e0,-⟩:=hf;change _=_ at e0;simp only[fA,e0]at hK ⊢;go_wp2_with (fail);go_at_call 63;refine(qDx (fun _=>True) d W (Up.any _) hd0 hd1).mono ?_;rintro e w' ⟨v',rfl,y1,y2⟩;obtain⟨zs1,zA1,zn1,zc1,zB1,zm1,zd1,qz⟩:=y2.qform;subst qz;have y2':=hyd1 y2;clear y2;go_wp2;exact hK _ _ y1 y2'.out
  ·refine mSl rfl fun xv W hR hf Q hK hP=>?_;have cc0:=bcl hR (by omega) cn0;simp only[fA]at hK ⊢;go_wp2;exact hK _ _ lrR rfl
  ·refine mSl rfl fun xv W hR hf Q hK hP=>?_;obtain⟨e0,-⟩:=hf;change _=_ at e0;simp only[fA,e0]at hK ⊢;go_wp2_with (fail);go_at_call 63;refine(qDx (fun _=>True) n W (Up.any _) hn0 hn1).mono ?_;rintro e w' ⟨v',rfl,y1,y2⟩;obtain⟨zs1,zA1,zn1,zc1,zB1,zm1,zd1,qz⟩:=y2.qform;subst qz;have y2':=hyd1 y2;clear y2;go_wp2;exact hK _ _ y1 y2'.out
  ·refine mSl rfl fun xv W hR hf Q hK hP=>?_;obtain⟨e0,e1,-⟩:=hf;replace e0:RatT .u32 W (xv 1) ((d:Rat)):=e0;replace e1:RatT .u32 W (xv 3) ((n:Rat)):=e1;obtain⟨u0s1,u0A1,u0n1,u0c1,u0B1,u0m1,u0d1,qu0⟩:=e0.qform;rw[qu0]at e0;obtain⟨u1s1,u1A1,u1n1,u1c1,u1B1,u1m1,u1d1,qu1⟩:=e1.qform;rw[qu1]at e1;simp only[fA,qu0,qu1]at hK ⊢;go_wp2;exact hK _ _ lrR (TurnL.mk e0 e1)
  ·refine mSl rfl fun xv W hR hf Q hK hP=>?_;simp only[fA]at hK ⊢;have hs9:=hR.size;go_wp2;exact hK _ _ (qAB _ _) ⟨_,rfl,hs9,by unfold World.alloc;exact Array.getElem?_push_size⟩
 ·intro xv W hR hf Q' hQ1 _;have e4:TurnL .u32 W (xv 4) (ndG n d):=hf 4 (by decide);obtain⟨k5,q5,hk5,hx5⟩:=hf 5 (by decide);replace q5:xv 5=_:=q5;obtain⟨ps1,pA1,pn1,pc1,pB1,pm1,pd1,ps2,pA2,pn2,pc2,pB2,pm2,pd2,qp,y1,y2⟩:=e4;simp only[List.drop_succ_cons,List.drop_zero];rw[show List.range 6=[0,1,2,3,4,5]from rfl];simp only[fA,qp,q5];clear qp q5 hf
  obtain⟨V,hV,hle1,l5,j1,j2⟩:∃V,((((((W.setCell ⟨k5,0,none⟩ (.bool ps1)).setCell ⟨k5,1,none⟩ (.slice pA1 pn1 pc1)).setCell ⟨k5,2,none⟩ (.slice pB1 pm1 pd1)).setCell ⟨k5,3,none⟩ (.bool ps2)).setCell ⟨k5,4,none⟩ (.slice pA2 pn2 pc2)).setCell ⟨k5,5,none⟩ (.slice pB2 pm2 pd2))=V∧Le W0 V∧V.heap[k5]? =some (.cells #[.bool ps1,.slice pA1 pn1 pc1,.slice pB1 pm1 pd1,.bool ps2,.slice pA2 pn2 pc2,.slice pB2 pm2 pd2] 120)∧RatT .u32 V (.agg #[.bool ps1,.slice pA1 pn1 pc1,.slice pB1 pm1 pd1]) (ndG n d).1∧RatT .u32 V (.agg #[.bool ps2,.slice pA2 pn2 pc2,.slice pB2 pm2 pd2]) (ndG n d).2:=
   ⟨_,rfl,qDO hR hk5 _ _ _ _ _ _,qCL hx5 _ _ _ _ _ _,y1.touch (qBB hx5) (qAT _ _ _ _ _ _ _ _),y2.touch (qBB hx5) (qAT _ _ _ _ _ _ _ _)⟩
  obtain⟨z0,z1,z2,z3,z4,z5⟩:=qAx hx5;have⟨g0,g1,g2,g3,g4,g5⟩:=frz6 hx5;obtain⟨cp0,cp1,cp2,cp3,cp4,cp5⟩:=qAx l5;have hl5:=(gsl l5);have k0V:=bxl hle1 k0'.out;have hl0:=(gsl k0V);have hleV:=hle'.out.trans hle1;have hv:=TurnL.mk (g:=ndG n d) j1 j2;have⟨hR',hle1',hx5',hk5',l5',j1',j2',y1'⟩:=hyd8 hR hle1 hx5 hk5 l5 j1 j2 y1;have⟨y2',k0V',hleV',hv'⟩:=hyd4 y2 k0V hleV hv;clear hv hleV k0V y2 y1 j2 j1 l5 hk5 hx5 hle1 hR;go_wp2;clear z0 z1 z2 z3 z4 z5 g0 g1 g2 g3 g4 g5;refine hQ1 _ _ ?_;clear hV hQ1;go_wp2_with (fail);refine qAP (R:=leRel) 5 [some 9,some 10,some 11,some 12,some 13,none] [[],[],[1],[0,2],[3],[4]]
   [.eq (.agg #[.bool ps1,.slice pA1 pn1 pc1,.slice pB1 pm1 pd1,.bool ps2,.slice pA2 pn2 pc2,.slice pB2 pm2 pd2]),.eq (.agg #[.bool ps1,.slice pA1 pn1 pc1,.slice pB1 pm1 pd1,.bool ps2,.slice pA2 pn2 pc2,.slice pB2 pm2 pd2]),MPred.turn .u32 (qA8 (ndG n d)),MPred.turn .u32 (gdiv (ndG n d) (qA8 (ndG n d))),MPred.turnFO (gdiv (ndG n d) (qA8 (ndG n d)))] (fun ch W=>ch=flt 12∧¬TSz (gdiv (ndG n d) (qA8 (ndG n d))) 40∧Le V W) (by kernel_rfl) (by kernel_rfl) (by kernel_rfl) (by kernel_rfl) ?_ (by rintro a9 ch W hdf - ⟨rfl,hbad,hle9⟩;exact⟨hdf,hleV'.out.trans hle9,.inr ⟨12,qGQ hbad,rfl⟩⟩) ?_
  ·simp only[List.take_succ_cons,List.take_zero];refine mSc ?_ (mSc ?_ (mSc ?_ (mSc ?_ (mSc ?_ (qAS)))))
   ·refine mSl rfl fun xv W hR hf Q hK hP=>?_;have cc0:=(Below.cell hR (p:=⟨k5,0,none⟩) (by show k5<V.heap.size;omega)).trans cp0;have cc1:=(Below.cell hR (p:=⟨k5,1,none⟩) (by show k5<V.heap.size;omega)).trans cp1;have cc2:=(Below.cell hR (p:=⟨k5,2,none⟩) (by show k5<V.heap.size;omega)).trans cp2;have cc3:=(Below.cell hR (p:=⟨k5,3,none⟩) (by show k5<V.heap.size;omega)).trans cp3;have cc4:=(Below.cell hR (p:=⟨k5,4,none⟩) (by show k5<V.heap.size;omega)).trans cp4;have cc5:=(Below.cell hR (p:=⟨k5,5,none⟩) (by show k5<V.heap.size;omega)).trans cp5;simp only[fA]at hK ⊢;go_wp2;exact hK _ _ lrR rfl
   ·refine mSl rfl fun xv W hR hf Q hK hP=>?_;have cc0:=(Below.cell hR (p:=⟨k5,0,none⟩) (by show k5<V.heap.size;omega)).trans cp0;have cc1:=(Below.cell hR (p:=⟨k5,1,none⟩) (by show k5<V.heap.size;omega)).trans cp1;have cc2:=(Below.cell hR (p:=⟨k5,2,none⟩) (by show k5<V.heap.size;omega)).trans cp2;have cc3:=(Below.cell hR (p:=⟨k5,3,none⟩) (by show k5<V.heap.size;omega)).trans cp3;have cc4:=(Below.cell hR (p:=⟨k5,4,none⟩) (by show k5<V.heap.size;omega)).trans cp4;have cc5:=(Below.cell hR (p:=⟨k5,5,none⟩) (by show k5<V.heap.size;omega)).trans cp5;simp only[fA]at hK ⊢;go_wp2;exact hK _ _ lrR rfl
   ·refine mSl rfl fun xv W hR hf Q hK hP=>?_;obtain⟨e0,-⟩:=hf;change _=_ at e0;simp only[fA,e0]at hK ⊢;go_wp2_with (fail);go_at_call 88;refine(qFw (ndG n d) _ W (hv'.out.le hR)).mono ?_;rintro e w' ⟨v',rfl,y1,y2⟩;obtain⟨zs1,zA1,zn1,zc1,zB1,zm1,zd1,zs2,zA2,zn2,zc2,zB2,zm2,zd2,qz⟩:=y2.form;subst qz;have y2':=hyd1 y2;clear y2;go_wp2;exact hK _ _ y1 y2'.out
   ·refine mSl rfl fun xv W hR hf Q hK hP=>?_;obtain⟨e0,e1,-⟩:=hf;change _=_ at e0;replace e1:TurnL .u32 W (xv 2) (qA8 (ndG n d)):=e1;simp only[fA,e0]at hK ⊢;go_wp2_with (fail);go_at_call 87;refine(qOJ (ndG n d) (qA8 (ndG n d)) _ _ W (hv'.out.le hR) e1 (hsz'.out.up (by decide)) (qJx (hsz'.out.up (by decide))) hnm'.out).mono ?_;rintro e w' ⟨v',rfl,y1,y2⟩;obtain⟨zs1,zA1,zn1,zc1,zB1,zm1,zd1,zs2,zA2,zn2,zc2,zB2,zm2,zd2,qz⟩:=y2.form;subst qz;have y2':=hyd1 y2;clear y2;go_wp2;exact hK _ _ y1 y2'.out
   ·refine mSl rfl fun xv W hR hf Q hK hP=>?_;obtain⟨e0,-⟩:=hf;replace e0:TurnL .u32 W (xv 3) (gdiv (ndG n d) (qA8 (ndG n d))):=e0;simp only[fA]at hK ⊢
    rcases Classical.em (TSz (gdiv (ndG n d) (qA8 (ndG n d))) 40)with hs|hs
    ·have hcall:=qF4 (gdiv (ndG n d) (qA8 (ndG n d))) _ W e0 hs;have⟨hcall',hR',hs'⟩:=hyd3 hcall hR hs;clear hs hR hcall;go_wp2_with (fail);go_at_call 86;refine hcall'.out.mono ?_;rintro e w' ⟨v',rfl,y1,y2⟩;have y3:=y2;obtain⟨zs1,zA1,zn1,zc1,zt1,zB1,zm1,zd1,zs2,zA2,zn2,zc2,zt2,zB2,zm2,zd2,qz,-,-⟩:=y3;subst qz;have y2':=hyd1 y2;clear y2;go_wp2;exact hK _ _ y1 ⟨hs'.out,y2'.out⟩
    ·have hcall:=qF5 (gdiv (ndG n d) (qA8 (ndG n d))) _ W e0 hs;have⟨hcall',hR',hs'⟩:=hyd3 hcall hR hs;clear hs hR hcall;go_wp2_with (fail);go_at_call 86;refine hcall'.out.mono ?_;rintro e w' ⟨rfl,y1⟩;go_wp2_with (fail);exact hP _ _ _ (Le.trans hR'.out y1) ⟨rfl,hs'.out,hR'.out.trans y1⟩
  ·intro xv W hR hf Q' hQ1 _;have eL:TSz (gdiv (ndG n d) (qA8 (ndG n d))) 40∧TurnF W (xv 4) (gdiv (ndG n d) (qA8 (ndG n d))):=hf 4 (by decide);obtain⟨hg,rs1,rA1,rn1,rc1,rt1,rB1,rm1,rd1,rs2,rA2,rn2,rc2,rt2,rB2,rm2,rd2,qL,y1,y2⟩:=eL;have kW:=(Below.block hR (w.heap.size) (by omega)).trans k0V'.out;obtain⟨z0,z1,z2,z3,z4,z5,z6,z7⟩:=qA2 kW;have⟨g0,g1,g2,g3,g4,g5,g6,g7⟩:=frz8 kW;simp only[List.drop_succ_cons,List.drop_zero];rw[show List.range 5=[0,1,2,3,4]from rfl];simp only[fA,qL];have hle9:=fun u0 u1 u2 u3 u4 u5 u6 u7=>qCF (Le.trans hleV'.out hR) (show w.heap.size≤w.heap.size by omega) u0 u1 u2 u3 u4 u5 u6 u7;have hb9:=fun u0 u1 u2 u3 u4 u5 u6 u7=>qA2 (qB5 kW u0 u1 u2 u3 u4 u5 u6 u7);simp only[set8]at hb9;have hfin:=fun u0 u1 u2 u3 u4 u5 u6 u7=>And.intro (y1.touch (qCG kW) (qAp W (w.heap.size) u0 u1 u2 u3 u4 u5 u6 u7)) (y2.touch (qCG kW) (qAp W (w.heap.size) u0 u1 u2 u3 u4 u5 u6 u7));have⟨hle9',hb9',hfin',kW',y1',y2',qL',hR'⟩:=hyd8 hle9 hb9 hfin kW y1 y2 qL hR;clear hR qL y2 y1 kW hfin hb9 hle9;have hg':=hyd1 hg;clear hg;go_wp2;refine hQ1 _ _ ?_;go_wp2;obtain⟨d0,d1,d2,d3,d4,d5,d6,d7⟩:=hb9'.out (.bool rs1) (.slice rA1 rn1 rc1) (.bool rt1) (.slice rB1 rm1 rd1) (.bool rs2) (.slice rA2 rn2 rc2) (.bool rt2) (.slice rB2 rm2 rd2);exact bodyPost_ret (v:= .agg #[.bool rs1,.slice rA1 rn1 rc1,.bool rt1,.slice rB1 rm1 rd1,.bool rs2,.slice rA2 rn2 rc2,.bool rt2,.slice rB2 rm2 rd2]) (by simp[results,Tryz.results85,go_sem,d0,d1,d2,d3,d4,d5,d6,d7]) rfl ⟨hle9'.out _ _ _ _ _ _ _ _,.inl ⟨_,_,qEP hg'.out,rfl,TurnF.mk (hfin'.out _ _ _ _ _ _ _ _).1 (hfin'.out _ _ _ _ _ _ _ _).2⟩⟩
theorem qNI (n d:Int) (w:World) (hn0: -9223372036854775808≤n) (hn1:n≤9223372036854775807) (hd0: -9223372036854775808≤d) (hd1:d≤9223372036854775807):Calls Tryz.prog 31 #[.int .i64 n,.int .i64 d] w (qFV (qFA n d) w):=by
 obtain⟨W0,hW0,hsz,hle,k0,k1,k2⟩:=qBF w (.cells #[.int .i64 n] 3) (.cells #[.int .i64 d] 3) (.cells #[.bool false,.slice none 0 0,.bool false,.slice none 0 0,.bool false,.slice none 0 0,.bool false,.slice none 0 0] 56);have c0:=qAC k0;have c1:=qAC k1;have hmf:∀(fn:Fn) (first cap:Array Value) (w:World),(Instr.makeFunc fn first cap).run Tryz.prog w= .ok (.func fn first cap) w:=fun _ _ _ _=>rfl
 by_cases hnz:n=0∧d=0
 ·obtain⟨rfl,rfl⟩:=hnz;have har:qFA 0 0= .error 11:=if_pos ⟨rfl,rfl⟩;obtain⟨a0,a1,a2,a3,a4,a5,a6,a7⟩:=qA2 k2;have⟨g0,g1,g2,g3,g4,g5,g6,g7⟩:=frz8 k2;have hle9:=qCF hle (show w.heap.size≤w.heap.size+1+1 by omega) (.bool false) (.slice none 0 0) (.bool false) (.slice none 0 0) (.bool false) (.slice none 0 0) (.bool false) (.slice none 0 0);have hb9:=qA2 (qB5 k2 (.bool false) (.slice none 0 0) (.bool false) (.slice none 0 0) (.bool false) (.slice none 0 0) (.bool false) (.slice none 0 0));simp only[set8]at hb9;have⟨hle',k0',k1',k2',har',hle9',hb9'⟩:=hyd7 hle k0 k1 k2 har hle9 hb9;clear hb9 hle9 har k2 k1 k0 hle;go_enter Tryz.func31,Tryz.ntmps31;go_wp2;obtain⟨d0,d1,d2,d3,d4,d5,d6,d7⟩:=hb9'.out;exact bodyPost_ret (v:= .tuple #[.agg #[.bool false,.slice none 0 0,.bool false,.slice none 0 0,.bool false,.slice none 0 0,.bool false,.slice none 0 0],.int .i64 11]) (by simp[results,Tryz.results31,go_sem,d0,d1,d2,d3,d4,d5,d6,d7]) rfl ⟨hle9'.out,_,_,rfl,by rw[har'.out];exact⟨rfl,rfl⟩⟩
 ·have har:qFA n d=outG (gdiv (ndG n d) (qA8 (ndG n d))):=if_neg hnz;have hrun:=qFx (outG (gdiv (ndG n d) (qA8 (ndG n d)))) 85 #[.pointer (some ⟨w.heap.size+1,0,none⟩),.pointer (some ⟨w.heap.size,0,none⟩)] W0 qJB fun W hW=>qLn n d _ _ _ W hn0 hn1 hd0 hd1 hnz (bxl hW k0) (bxl hW k1);rw[←har]at hrun;have hcond:(decide (n=0)&&decide (d=0))=false:=by rw[←Bool.decide_and];exact decide_eq_false hnz
  have⟨hle',k0',k1',k2',har',hrun'⟩:=hyd6 hle k0 k1 k2 har hrun;clear hrun har k2 k1 k0 hle
  by_cases h0:n=0
  ·subst h0;have h1:¬d=0:=fun h=>hnz ⟨rfl,h⟩;clear hnz hcond;go_enter Tryz.func31,Tryz.ntmps31;go_wp2_with (fail);clear hW0;go_at_call 84;refine hrun'.out.mono ?_;rintro e W1 ⟨hle1,v1,cc,rfl,hres⟩;have hres0:=hres;obtain⟨rs1,rA1,rn1,rc1,rt1,rB1,rm1,rd1,rs2,rA2,rn2,rc2,rt2,rB2,rm2,rd2,rfl⟩:=hres.form;have k9:=bxl hle1 k2'.out;have hl9:=hle'.out.trans hle1;have⟨hle1',hres',hres0',hl9'⟩:=hyd4 hle1 hres hres0 hl9;clear hl9 hres0 hres hle1;obtain⟨z0,z1,z2,z3,z4,z5,z6,z7⟩:=qA2 k9;have⟨g0,g1,g2,g3,g4,g5,g6,g7⟩:=frz8 k9;have hle9:=fun u0 u1 u2 u3 u4 u5 u6 u7=>qCF (hl9'.out) (show w.heap.size≤w.heap.size+1+1 by omega) u0 u1 u2 u3 u4 u5 u6 u7;have hb9:=fun u0 u1 u2 u3 u4 u5 u6 u7=>qA2 (qB5 k9 u0 u1 u2 u3 u4 u5 u6 u7);simp only[set8]at hb9;have hfin:=fun u0 u1 u2 u3 u4 u5 u6 u7=>hres'.out.touch (qCG k9) (qAp W1 (w.heap.size+1+1) u0 u1 u2 u3 u4 u5 u6 u7);have⟨hle9',hb9',hfin',k9'⟩:=hyd4 hle9 hb9 hfin k9;clear k9 hfin hb9 hle9;go_wp2;obtain⟨d0,d1,d2,d3,d4,d5,d6,d7⟩:=hb9'.out (.bool rs1) (.slice rA1 rn1 rc1) (.bool rt1) (.slice rB1 rm1 rd1) (.bool rs2) (.slice rA2 rn2 rc2) (.bool rt2) (.slice rB2 rm2 rd2);exact bodyPost_ret (v:= .tuple #[.agg #[.bool rs1,.slice rA1 rn1 rc1,.bool rt1,.slice rB1 rm1 rd1,.bool rs2,.slice rA2 rn2 rc2,.bool rt2,.slice rB2 rm2 rd2],.int .i64 cc]) (by simp[results,Tryz.results31,go_sem,d0,d1,d2,d3,d4,d5,d6,d7]) rfl ⟨hle9'.out _ _ _ _ _ _ _ _,_,_,rfl,hfin'.out _ _ _ _ _ _ _ _⟩
  ·clear hnz hcond;go_enter Tryz.func31,Tryz.ntmps31;go_wp2_with (fail);clear hW0;go_at_call 84;refine hrun'.out.mono ?_;rintro e W1 ⟨hle1,v1,cc,rfl,hres⟩;have hres0:=hres;obtain⟨rs1,rA1,rn1,rc1,rt1,rB1,rm1,rd1,rs2,rA2,rn2,rc2,rt2,rB2,rm2,rd2,rfl⟩:=hres.form;have k9:=bxl hle1 k2'.out;have hl9:=hle'.out.trans hle1;have⟨hle1',hres',hres0',hl9'⟩:=hyd4 hle1 hres hres0 hl9;clear hl9 hres0 hres hle1;obtain⟨z0,z1,z2,z3,z4,z5,z6,z7⟩:=qA2 k9;have⟨g0,g1,g2,g3,g4,g5,g6,g7⟩:=frz8 k9;have hle9:=fun u0 u1 u2 u3 u4 u5 u6 u7=>qCF (hl9'.out) (show w.heap.size≤w.heap.size+1+1 by omega) u0 u1 u2 u3 u4 u5 u6 u7;have hb9:=fun u0 u1 u2 u3 u4 u5 u6 u7=>qA2 (qB5 k9 u0 u1 u2 u3 u4 u5 u6 u7);simp only[set8]at hb9;have hfin:=fun u0 u1 u2 u3 u4 u5 u6 u7=>hres'.out.touch (qCG k9) (qAp W1 (w.heap.size+1+1) u0 u1 u2 u3 u4 u5 u6 u7);have⟨hle9',hb9',hfin',k9'⟩:=hyd4 hle9 hb9 hfin k9;clear k9 hfin hb9 hle9;go_wp2;obtain⟨d0,d1,d2,d3,d4,d5,d6,d7⟩:=hb9'.out (.bool rs1) (.slice rA1 rn1 rc1) (.bool rt1) (.slice rB1 rm1 rd1) (.bool rs2) (.slice rA2 rn2 rc2) (.bool rt2) (.slice rB2 rm2 rd2);exact bodyPost_ret (v:= .tuple #[.agg #[.bool rs1,.slice rA1 rn1 rc1,.bool rt1,.slice rB1 rm1 rd1,.bool rs2,.slice rA2 rn2 rc2,.bool rt2,.slice rB2 rm2 rd2],.int .i64 cc]) (by simp[results,Tryz.results31,go_sem,d0,d1,d2,d3,d4,d5,d6,d7]) rfl ⟨hle9'.out _ _ _ _ _ _ _ _,_,_,rfl,hfin'.out _ _ _ _ _ _ _ _⟩
theorem qF6 (x y:FracA×FracA) (va vb:Value) (w:World) (h1:IsTurnA w va x) (h2:IsTurnA w vb y):Calls Tryz.prog 36 #[va,vb] w fun e w'=>e= .returned (.bool (qHj x y))∧Le w w':=by
 obtain⟨x1A,x1c,x1B,x1d,x2A,x2c,x2B,x2d,rfl,p1,p2⟩:=h1;obtain⟨y1A,y1c,y1B,y1d,y2A,y2c,y2B,y2d,rfl,q1,q2⟩:=h2;obtain⟨W0,hW0,hsz,hle,k0,k1⟩:=qAy w (.cells #[.bool x.1.sn,.slice x1A x.1.gn.length x1c,.bool x.1.sd,.slice x1B x.1.gd.length x1d,.bool x.2.sn,.slice x2A x.2.gn.length x2c,.bool x.2.sd,.slice x2B x.2.gd.length x2d] 56) (.cells #[.bool y.1.sn,.slice y1A y.1.gn.length y1c,.bool y.1.sd,.slice y1B y.1.gd.length y1d,.bool y.2.sn,.slice y2A y.2.gn.length y2c,.bool y.2.sd,.slice y2B y.2.gd.length y2d] 56);obtain⟨a0,a1,a2,a3,a4,a5,a6,a7⟩:=qA2 k0;obtain⟨b0,b1,b2,b3,b4,b5,b6,b7⟩:=qA2 k1;have r1:=qDA (fun _=>True) (fun _=>True) x.1 y.1 _ _ W0 (p1.le hle) (q1.le hle);have r2:=fun W (hW:Le W0 W)=>qDA (fun _=>True) (fun _=>True) x.2 y.2 _ _ W (p2.le (hle.trans hW)) (q2.le (hle.trans hW));obtain⟨s1,hs1⟩:∃s,qBG x.1 y.1=s:=⟨_,rfl⟩;obtain⟨s2,hs2⟩:∃s,qBG x.2 y.2=s:=⟨_,rfl⟩;have hT:qHj x y=(s1&&s2):=by unfold qHj;rw[hs1,hs2]
 rw[hs1]at r1;rw[hs2]at r2;rw[hT];have⟨hle',k0',k1',p1',p2',q1',q2',r1'⟩:=hyd8 hle k0 k1 p1 p2 q1 q2 r1;have⟨r2',hs1',hs2',hT'⟩:=hyd4 r2 hs1 hs2 hT;clear hT hs2 hs1 r2 r1 q2 q1 p2 p1 k1 k0 hle
 cases s1
 ·go_enter Tryz.func36,Tryz.ntmps36;go_wp2_with (fail);clear hW0;go_at_call 51;refine r1'.out.mono ?_;rintro e W1 ⟨rfl,hle1⟩;have hl1:=hle'.out.trans hle1;have⟨hle1',hl1'⟩:=hyd2 hle1 hl1;clear hl1 hle1;go_wp2;go_ret;exact⟨by simp,hl1'.out⟩
 ·go_enter Tryz.func36,Tryz.ntmps36;go_wp2_with (fail);clear hW0;go_at_call 51;refine r1'.out.mono ?_;rintro e W1 ⟨rfl,hle1⟩;clear a0 a1 a2 a3 a4 a5 a6 a7 b0 b1 b2 b3 b4 b5 b6 b7;obtain⟨a0,a1,a2,a3,a4,a5,a6,a7⟩:=qA2 (bxl hle1 k0'.out);obtain⟨b0,b1,b2,b3,b4,b5,b6,b7⟩:=qA2 (bxl hle1 k1'.out);have r3:=r2'.out W1 hle1;have⟨hle1',r3'⟩:=hyd2 hle1 r3;clear r3 hle1;go_wp2_with (fail);go_at_call 51;refine r3'.out.mono ?_;rintro e W2 ⟨rfl,hle2⟩;have hl2:=(hle'.out.trans hle1'.out).trans hle2;have⟨hle2',hl2'⟩:=hyd2 hle2 hl2;clear hl2 hle2;go_wp2;go_ret;exact⟨by simp,hl2'.out⟩
theorem fe5 (D s N Q:Rat) (hD:D≠0) (hQ:Q≠0) (hs0:s≠0):N / D / (Q / D)=(s*N) / (s*Q):=by grind
theorem GL.monic {n:Nat} {l:List Rat} (h:GL n l) (h0:qBs l≠0):GL n (qAk l):=by
 obtain⟨D,d1,d2,d3⟩:=h;obtain⟨Qt,qt1,qt2⟩:=GL.getD d3 (l.length - 1);have hD:(D:Rat)≠0:=by exact_mod_cast Nat.ne_of_gt d1
 have hlast:qBs l=(Qt:Rat) / (D:Rat):=qt1;have hQ0:Qt≠0:=fun h=>h0 (by rw[hlast,h,Rat.intCast_zero,qDJ]);have hQr:(Qt:Rat)≠0:=by exact_mod_cast hQ0
 have hp:0<Qt.natAbs:=Int.natAbs_pos.2 hQ0
 obtain⟨sg9,hs1,hs2⟩:∃s:Int,(s=1∨s= -1)∧(Qt.natAbs:Int)=s*Qt:=by
  rcases Int.natAbs_eq Qt with h|h
  ·exact⟨1,.inl rfl,by omega⟩
  ·exact⟨-1,.inr rfl,by omega⟩
 have hsr:((Qt.natAbs:Nat):Rat)=(sg9:Rat)*(Qt:Rat):=by
  rw[←Rat.intCast_mul,←hs2];rfl
 have hb:∀N:Int,(sg9*N).natAbs =N.natAbs:=fun N=>by rcases hs1 with rfl|rfl<;>simp
 have hs0:(sg9:Rat)≠0:=by rcases hs1 with rfl|rfl<;>decide+kernel
 refine⟨Qt.natAbs,hp,qt2,fun r hr=>?_⟩;unfold qAk at hr;rw[List.mem_map]at hr;obtain⟨x,hx,rfl⟩:=hr;obtain⟨N,e,hN⟩:=d3 x hx;refine⟨sg9*N,?_,by rw[hb];exact hN⟩;rw[hlast,e,hsr,Rat.intCast_mul];exact fe5 _ _ _ _ hD hQr hs0
theorem GL.part {n:Nat} {l l':List Rat} (h:GL n l) (hs:∀r∈l',r∈l):GL n l':=by
 obtain⟨D,d1,d2,d3⟩:=h;exact⟨D,d1,d2,fun r hr=>d3 r (hs r hr)⟩
theorem qOK {n k:Nat} {P q:List Rat} (hP:GL n P) (hq:GL k q) (h0:q.getD (q.length - 1) 0≠0):GL (n+(P.length+1 - q.length)*(k+1)) (qBH P q):=by
 unfold qBH
 by_cases h:P.length<q.length
 ·rw[if_pos h];exact hP.up (by omega)
 ·rw[if_neg h,show P.length+1 - q.length=P.length - q.length+1 by omega];exact(qIJ hP hq h0 _ _).part fun r hr=>List.mem_of_mem_take hr
theorem qOL {p q:List Rat} (tp:qAZ p=true) (tq:qAZ q=true) (hq0:q.length≠0):(qBH p q).length <q.length:=by
 have e1:=(qDN q).len (qAn _) tq;have hn:(qAG q).length ≠0:=by omega
 have h:=qIf (qDN p) (qDN q) (qAn _) (qAn _) tp tq hn;have e2:=h.len (qCe (qAn _)) (qEp tp);have:=qCA (a:=qAG p) (b:=qAG q) hn;omega
noncomputable def gcdQ (x y:List Rat):List Rat:=qCT y.length (qAk x) (qAk y)
def Scp (A:List Int) (r:List Rat):Prop:=∃c:Rat,0<c∧∀j,((A.getD j 0:Int):Rat)=c*r.getD j 0
theorem Scp.sc {A:List Int} {r:List Rat} (h:Scp A r):Sc A r:=by
 obtain⟨c,hc,h⟩:=h;exact⟨c,Rat.ne_of_gt hc,h⟩
theorem qKD {a b:Rat} (ha:0<a) (hb:0<b):0<a / b:=by
 rw[Rat.div_def];exact Rat.mul_pos ha (Rat.inv_pos.2 hb)
theorem Scp.prim {A:List Int} {r:List Rat} (h:Scp A r):Scp (qA7 A) r:=by
 obtain⟨c,hc,h⟩:=h
 by_cases hg:gcdI (qAI A)=0
 ·have hz:(qAI A).length =0:=Classical.byContradiction fun h0=>qEO (List.getElem_mem (show 0<(qAI A).length by omega)) hg;have hz2:∀j,(qA7 A).getD j 0=0:=fun j=>qB1 (by unfold qA7;rw[List.length_map];omega);refine⟨c,hc,fun j=>?_⟩;rw[hz2,←h j,qD0 A j,hz2,Int.mul_zero]
 ·have hg2:0<((gcdI (qAI A):Nat):Rat):=Rat.natCast_pos.2 (by omega);refine⟨c / ((gcdI (qAI A):Nat):Rat),qKD hc hg2,fun j=>?_⟩;have h1:=h j;rw[qD0 A j]at h1
  have h2:((((gcdI (qAI A):Nat):Int)*(qA7 A).getD j 0:Int):Rat)=((gcdI (qAI A):Nat):Rat)*(((qA7 A).getD j 0:Int):Rat):=by
   rw[Rat.intCast_mul]
   rfl
  rw[h2]at h1;generalize (((qA7 A).getD j 0:Int):Rat)=x at h1 ⊢;generalize ((gcdI (qAI A):Nat):Rat)=g at h1 hg2 ⊢;generalize r.getD j 0=y at h1 ⊢;have hg3:=Rat.ne_of_gt hg2;clear hg2 h hg
  grind
theorem qFY (l:List Rat):Scp (qAG l) l:=by
 unfold qAG;refine Scp.prim ⟨((denI l:Nat):Rat),Rat.natCast_pos.2 (qFN l l.length),fun j=>?_⟩
 by_cases hj:j<l.length
 ·rw[List.getD_eq_getElem?_getD,List.getD_eq_getElem?_getD,List.getElem?_map,List.getElem?_eq_getElem hj];exact qHd (qGt (List.getElem_mem hj))
 ·rw[qB1 (by rw[List.length_map];exact hj),qBe hj,Rat.mul_zero]
  rfl
def derQ (p:List Rat):List Rat:=(List.range (p.length - 1)).map fun j=>p.getD (j+1) 0*((j+1:Nat):Rat)
theorem qE6 (p:List Rat):(derQ p).length =p.length - 1:=by unfold derQ;rw[List.length_map,List.length_range]
theorem qIn (p:List Rat) (j:Nat):(derQ p).getD j 0=p.getD (j+1) 0*((j+1:Nat):Rat):=by
 by_cases hj:j<p.length - 1
 ·unfold derQ;rw[List.getD_eq_getElem?_getD,List.getElem?_map,List.getElem?_range hj]
  rfl
 ·rw[qBe (by rw[qE6];exact hj),qBe (by omega),Rat.zero_mul]
theorem qNJ (p:List Int) (j:Nat):(derS p).getD j 0=p.getD (j+1) 0*((j+1:Nat):Int):=by
 by_cases hj:j<p.length - 1
 ·unfold derS;rw[List.getD_eq_getElem?_getD,List.getElem?_map,List.getElem?_range hj]
  rfl
 ·rw[qB1 (by rw[qJr];exact hj),qB1 (by omega),Int.zero_mul]
theorem Scp.der {A:List Int} {r:List Rat} (h:Scp A r):Scp (derI A) (derQ r):=by
 obtain⟨c,hc,h⟩:=h;unfold derI;refine Scp.prim ⟨c,hc,fun j=>?_⟩;rw[qNJ,qIn,Rat.intCast_mul,h (j+1),Rat.mul_assoc]
 rfl
theorem qGz {p:List Rat} (h:qAZ p=true):qAZ (derQ p)=true:=by
 unfold qAZ
 by_cases h1:p.length≤1
 ·rw[decide_eq_true (by rw[qE6];omega)];rfl
 ·have hz:=qE1 h (by omega)
  have e:(derQ p).getD ((derQ p).length - 1) 0≠0:=by
   rw[qIn,qE6,show p.length - 1 - 1+1=p.length - 1 by omega];intro h0
   rcases Rat.mul_eq_zero.1 h0 with h2|h2
   ·exact hz h2
   ·have:(0:Rat)<((p.length - 1:Nat):Rat):=Rat.natCast_pos.2 (by omega);rw[h2]at this;exact absurd this (by decide)
  rw[decide_eq_false e];simp
theorem qOM {p:List Rat} (h:qAZ p=true):gcdD p=gcdQ p (derQ p):=by
 have hd:=qGz h;have h1:=(qFY p).der;have hl:=h1.sc.len (qCf _) hd;have:=qKr (derI (qAG p)).length (qAG p) (derI (qAG p)) (qAk p) (qAk (derQ p)) ((qDN p).monic' h) (h1.sc.monic' hd) (qAn _) (qCf _) (qCE h) (qCE hd) ((qDN p).ratios (qAn _) h) (h1.sc.ratios (qCf _) hd);unfold gcdD qAt gcdQ;rw[this,hl]
theorem qPB (x:Rat):x<0∨x=0∨0<x:=by
 by_cases h:x<0
 ·exact .inl h
 ·by_cases h0:x=0
  ·exact .inr (.inl h0)
  ·exact .inr (.inr (Rat.lt_of_le_of_ne (Rat.not_lt.1 h) (Ne.symm h0)))
theorem qKE {x:Rat} (h:0<x):rsgn x=1:=by
 unfold rsgn;have h1:0≤x.num:=Rat.num_nonneg.2 (Rat.le_of_lt h);have h2:x.num≠0:=fun h0=>(Rat.ne_of_gt h) (Rat.num_eq_zero.1 h0);exact Int.sign_eq_one_of_pos (by omega)
theorem qIo {x:Rat} (h:x<0):rsgn x= -1:=by
 unfold rsgn;have h1:¬0≤x.num:=fun h1=>absurd (Rat.num_nonneg.1 h1) (Rat.not_le.2 h);exact Int.sign_eq_neg_one_of_neg (by omega)
theorem qHA:rsgn 0=0:=rsgn_zero.2 rfl
theorem qK2 (r:Rat):rsgn (-r)= - rsgn r:=by
 unfold rsgn;rw[Rat.neg_num,Int.sign_neg]
theorem qNK {x:FracA} {r:Rat} (h:inE x= .ok r) (hg:qAo x 2=false):Rsz r 2:=by
 have h40:=qMb h;unfold inE at h
 cases hr:x.rat? with
 | none=>rw[hr]at h;cases h
 | some r'=>
  rw[hr]at h;injection h with h;subst h;have hv:=FracA.val hr;unfold Rsz at h40 ⊢;rw[hv.num,hv.den]at h40 ⊢;unfold qAo bigB at hg;simp at hg;omega
theorem qLo {l:List FracA} (h:qDM l 8 2=false):(l.length≤8∨l.length=66)∧∀x∈l,qAo x 2=false:=by
 unfold qDM at h;rw[Bool.or_eq_false_iff]at h;refine⟨?_,fun x hx=>by have:=List.any_eq_false.1 h.2 x hx;simpa using this⟩;have h1:=h.1;simp at h1;omega
theorem qFZ {l:List FracA} {xs:List Rat} (hg:qDM l 8 2=false) (h:qAc l= .ok xs):xs.length≤8∧∀r∈xs,Rsz r 2:=by
 obtain⟨g1,g2⟩:=qLo hg;have h0:=(qCD h).1;unfold qAc at h
 split at h
 ·cases h
 ·cases hm:mapE inE l with
  | error z=>rw[hm]at h;cases h
  | ok rs=>
   rw[hm]at h;dsimp only at h
   split at h
   ·injection h with h;subst h;have hl:=qDm hm;refine⟨by omega,fun r hr=>?_⟩;obtain⟨x,hx,hf⟩:=qGh hm r hr;exact qNK hf (g2 x hx)
   ·cases h
theorem qOX:∀p,p<9→∀q,q<9→(max p q - min p q+2)*3^min p q≤13122:=by decide
theorem qFy {xs:List Rat} (h8:xs.length≤8) (hs:∀r∈xs,Rsz r 2):∀z∈qAG xs,Isz z 19:=by
 unfold qAG;refine qFP fun z hz=>?_;rw[List.mem_map]at hz;obtain⟨r,hr,rfl⟩:=hz;have h1:=qGL hs (by decide) xs.length;exact(qFn (hs r hr) (N:=17) (by unfold denI;omega)).up (by decide)
end Go.Proofs.YtenjpccpldajoaaGreatDoor
