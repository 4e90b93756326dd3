/- The law's package: alive, some of the chapter's examples. A drawn region `x, e := f(g(..))` with x an api.Frac in a box: the box as an invariant (5 takes the .. -/
import Derived.Test.YtenjpccpldajoaaGreatDoorPk43
import Derived.Test.YtenjpccpldajoaaGreatDoorPk48
namespace Go.Proofs.YtenjpccpldajoaaGreatDoor
set_option maxRecDepth 100000
set_option maxHeartbeats 8000000
open Go.RowKit Go.Shelf
set_option linter.unusedVariables false
set_option linter.unusedSimpArgs false
theorem qKH (x:FracA×FracA):qHj x x=true:=by unfold qHj;rw[qB0,qB0];rfl
theorem qNN (l:List FracA):qFp l l=true:=by
 unfold qFp;rw[decide_eq_true rfl,Bool.true_and,List.all_eq_true];intro p hp;obtain⟨i,hi,rfl⟩:=List.getElem_of_mem hp;simp only[List.getElem_zip];exact qB0 _
theorem qLs {p q:List FracA} (hp:qDM p 8 2=false) (hq:qDM q 8 2=false):qIN p q:=fun x y hx hy=>by
 obtain⟨x8,xs⟩:=qFZ hp hx;obtain⟨y8,ys⟩:=qFZ hq hy;refine⟨19,qFy x8 xs,qFy y8 ys,?_⟩;have h1:=qCS x;have h2:=qCS y;have h3:=qOX (qAG x).length (by omega) (qAG y).length (by omega);unfold Room;rw[←Nat.mul_assoc];exact Nat.le_trans (Nat.mul_le_mul_right _ h3) (by decide)
theorem qCy {V W:World} {k:Nat} {o:Obj} (hle:Le V W) (h:V.heap[k]? =some o):W.heap[k]? =some o:=(hle.block k (gsl h)).trans h
theorem qPE {r:Rat} (h:Rsz r 40):qHZ (qAE r)=qAL r:=by unfold qHZ;rw[qAQ h]
theorem qPF {r:Rat} (h:Rsz r 40):qH0 (qAE r)=0:=by unfold qH0;rw[qAQ h]
def MPred.isT (x:FracA×FracA):MPred:=⟨fun v w=>IsTurnA w v x,fun _ _ _ hb h=>h.le hb⟩
theorem qHp {a b c:Rat} (ha:qAo (qAE a) 2=false) (hb:qAo (qAE b) 2=false) (hc:qAo (qAE c) 2=false):qDM [qAE a,qAE b,qAE c] 8 2=false:=by
 unfold qDM;simp[ha,hb,hc]
theorem qBR {r:Rat} (h1:rnum r<1000000000) (h2:r.den<1000000000):qAo (qAE r) 2=false:=by
 have e1:(dg (rnum r)).length ≤1:=qAb (by rw[Nat.pow_one,qAO];exact h1);have e2:(dg r.den).length ≤1:=qAb (by rw[Nat.pow_one,qAO];exact h2);unfold qAo bigB qAE;simp only[Bool.or_eq_false_iff,Bool.and_eq_false_iff,decide_eq_false_iff_not];exact⟨⟨.inl (by omega),by omega⟩,.inl (by omega),by omega⟩
theorem qHB (w:World) (hw:TxW w):Calls Tryz.prog 8 #[] w fun e w'=>e= .returned (.bool true)∧Le w w':=by
 have g32:Rsz (-3 / 2) 40:=qBi (by decide+kernel);have q1:=qNo (fun _=>True) 6 (-4) w (Up.any _) (by decide) (by decide) (by decide) (by decide);rw[qOv]at q1;have⟨hw',g32',q1'⟩:=hyd3 hw g32 q1;clear q1 g32 hw;go_enter Tryz.func8,Tryz.ntmps8;go_wp2_with (fail);go_at_call 28;refine q1'.out.mono ?_;rintro e W1 ⟨hle1,v1,c1,rfl,hf1,rfl⟩;obtain⟨A1,c1,B1,d1,e1,i1,j1⟩:=hf1.isA;subst e1;generalize hx1:qAE (-3 / 2)=X1 at i1 j1 ⊢;obtain⟨W2,hW2,hle2,k1⟩:=al1 W1 (.cells #[.bool X1.sn,.slice A1 X1.gn.length c1,.bool X1.sd,.slice B1 X1.gd.length d1] 26);obtain⟨x0,x1,x2,x3⟩:=qAA k1;have hl2:=hle1.trans hle2;have q2:=qOy (fun _=>True) X1 _ W2 (show IsFracA (fun _=>True) W2 (.agg #[.bool X1.sn,.slice A1 X1.gn.length c1,.bool X1.sd,.slice B1 X1.gd.length d1]) X1 from⟨A1,c1,B1,d1,rfl,i1.le hle2,j1.le hle2⟩) (hw'.out.le hl2);rw[←hx1,qPE g32'.out,qPF g32'.out,qPZ,hx1]at q2;have⟨hle1',hf1',i1',j1',hx1',hle2',k1',hl2'⟩:=hyd8 hle1 hf1 i1 j1 hx1 hle2 k1 hl2;have q2':=hyd1 q2;clear q2 hl2 k1 hle2 hx1 j1 i1 hf1 hle1;go_wp2_with (fail);clear hW2;go_at_call 10;refine q2'.out.mono ?_;rintro e W3 ⟨rfl,hle3⟩;have hl3:=hl2'.out.trans hle3;have t1:=qGT 1 2 [49] [50] W3 (hw'.out.le hl3) (by decide+kernel) (by decide+kernel) (by decide) (by decide);clear x0 x1 x2 x3;have⟨hle3',hl3',t1'⟩:=hyd3 hle3 hl3 t1;clear t1 hl3 hle3;go_wp2_with (fail);go_at_call 30;refine t1'.out.mono ?_;rintro e W4 ⟨v2,rfl,hle4,hT1⟩;have hl4:=hl3'.out.trans hle4
 have t2:=qGT 3 (-1) [51] [45,49] W4 (hw'.out.le hl4) (by decide+kernel) (by decide+kernel) (by decide) (by decide);have⟨hle4',hl4',hT1',t2'⟩:=hyd4 hle4 hl4 hT1 t2;clear t2 hT1 hl4 hle4;go_wp2_with (fail);go_at_call 30;refine t2'.out.mono ?_;rintro e W5 ⟨v3,rfl,hle5,hT2⟩;have hl5:=hl4'.out.trans hle5;have q3:=qLm (qCr (1,2)) (qCr (3,-1)) v2 v3 W5 (hT1'.out.le hle5) hT2;rw[qPg]at q3;have⟨hle5',hl5',hT2',q3'⟩:=hyd4 hle5 hl5 hT2 q3;clear q3 hT2 hl5 hle5;go_wp2_with (fail);go_at_call 29;refine q3'.out.mono ?_;rintro e W6 ⟨hle6,v4,c4,rfl,hT3,rfl⟩;have hI3:=hT3.isAV;obtain⟨s6,A6,n6,c6,t6,B6,m6,d6,u6,C6,n7,c7,t7,D6,m7,d7,rfl,-,-⟩:=hT3;obtain⟨W7,hW7,hle7,k5⟩:=al1 W6 (.cells #[.bool s6,.slice A6 n6 c6,.bool t6,.slice B6 m6 d6,.bool u6,.slice C6 n7 c7,.bool t7,.slice D6 m7 d7] 56);have hI37:=hI3.le hle7;have hl7:=hl5'.out.trans (hle6.trans hle7);have q4:=qNI 1 2 W7 (by decide) (by decide) (by decide) (by decide);rw[qOC]at q4;clear hI3;have⟨hle6',hle7',k5',hI37',hl7',q4'⟩:=hyd6 hle6 hle7 k5 hI37 hl7 q4;clear q4 hl7 hI37 k5 hle7 hle6;go_wp2_with (fail);clear hW7;go_at_call 31;refine q4'.out.mono ?_;rintro e W8 ⟨hle8,v5,c5,rfl,hT4,rfl⟩;have hI4:=hT4.isAV;obtain⟨s8,A8,n8,c8,t8,B8,m8,d8,u8,C8,n9,c9,t9,D8,m9,d9,rfl,-,-⟩:=hT4;obtain⟨W9,hW9,hle9,k7⟩:=al1 W8 (.cells #[.bool s8,.slice A8 n8 c8,.bool t8,.slice B8 m8 d8,.bool u8,.slice C8 n9 c9,.bool t9,.slice D8 m9 d9] 56)
 have hle89:=hle8.trans hle9;have hI49:=hI4.le hle9;have hI39:=hI37'.out.le hle89;have k59:=(hle89.block _ (gsl k5'.out)).trans k5'.out;have hl9:=hl7'.out.trans hle89;clear hI4 hI37' k5';obtain⟨b5,hb5⟩:∃b,W6.heap.size=b:=⟨_,rfl⟩;obtain⟨b7,hb7⟩:∃b,W8.heap.size=b:=⟨_,rfl⟩;rw[hb5]at k59 ⊢;rw[hb7]at k7;have p1:=qFX (-2) 0 1 [45,50] [48] [49] W9 (hw'.out.le hl9) (by decide+kernel) (by decide+kernel) (by decide+kernel) (by decide) (by decide) (by decide);have⟨hle8',hle9',k7',hle89',hI49',hI39',k59',hl9'⟩:=hyd8 hle8 hle9 k7 hle89 hI49 hI39 k59 hl9;have⟨p1',hb5'⟩:=hyd2 p1 hb5;clear hb5 p1 hl9 k59 hI39 hI49 hle89 k7 hle9 hle8;go_wp2_with (fail);clear hW9 hb7;go_at_call 33;refine p1'.out.mono ?_;rintro e W10 ⟨vp1,rfl,hle10,hs1⟩;have r1:=qNy [qAE (-2),qAE 0,qAE 1] vp1 W10 hs1 (qFz (qHp (qBR (by decide+kernel) (by decide+kernel)) (qBR (by decide+kernel) (by decide+kernel)) (qBR (by decide+kernel) (by decide+kernel))));rw[qOw]at r1;have hl10:=hl9'.out.trans hle10;have⟨hle10',hs1',r1',hl10'⟩:=hyd4 hle10 hs1 r1 hl10;clear hl10 r1 hs1 hle10;go_wp2_with (fail);go_at_call 32;refine r1'.out.mono ?_;rintro e W11 ⟨rfl,hle11⟩;have hl11:=hl10'.out.trans hle11;have p2:=qFX (-1) 0 1 [45,49] [48] [49] W11 (hw'.out.le hl11) (by decide+kernel) (by decide+kernel) (by decide+kernel) (by decide) (by decide) (by decide);have⟨hle11',hl11',p2'⟩:=hyd3 hle11 hl11 p2;clear p2 hl11 hle11;go_wp2_with (fail);go_at_call 33;refine p2'.out.mono ?_
 rintro e W12 ⟨vp2,rfl,hle12,hs2⟩;have hl12:=hl11'.out.trans hle12;have p3:=qFX 1 2 1 [49] [50] [49] W12 (hw'.out.le hl12) (by decide+kernel) (by decide+kernel) (by decide+kernel) (by decide) (by decide) (by decide);have⟨hle12',hs2',hl12',p3'⟩:=hyd4 hle12 hs2 hl12 p3;clear p3 hl12 hs2 hle12;go_wp2_with (fail);go_at_call 33;refine p3'.out.mono ?_;rintro e W13 ⟨vp3,rfl,hle13,hs3⟩;have hl13:=hl12'.out.trans hle13;have r2:=qPV (fun _=>True) [qAE (-1),qAE 0,qAE 1] [qAE 1,qAE 2,qAE 1] vp2 vp3 W13 (qLs (qHp (qBR (by decide+kernel) (by decide+kernel)) (qBR (by decide+kernel) (by decide+kernel)) (qBR (by decide+kernel) (by decide+kernel))) (qHp (qBR (by decide+kernel) (by decide+kernel)) (qBR (by decide+kernel) (by decide+kernel)) (qBR (by decide+kernel) (by decide+kernel)))) (Up.any _) (hs2'.out.le hle13) hs3;rw[qPf]at r2;have⟨hle13',hs3',hl13',r2'⟩:=hyd4 hle13 hs3 hl13 r2;clear r2 hl13 hs3 hle13;go_wp2_with (fail);go_at_call 34;refine r2'.out.mono ?_;rintro e W14 ⟨hle14,vd,cd,rfl,hrow,rfl⟩;have hl14:=hl13'.out.trans hle14;have hsd:SeqE inK W14 vd [qAE 1,qAE 1]:=hrow.seq.answers;have p4:=qFX (-1) 0 1 [45,49] [48] [49] W14 (hw'.out.le hl14) (by decide+kernel) (by decide+kernel) (by decide+kernel) (by decide) (by decide) (by decide);have⟨hle14',hrow',hl14',hsd',p4'⟩:=hyd5 hle14 hrow hl14 hsd p4;clear p4 hsd hl14 hrow hle14;go_wp2_with (fail);go_at_call 33;refine p4'.out.mono ?_;rintro e W15 ⟨vp4,rfl,hle15,hs4⟩
 have hl15:=hl14'.out.trans hle15;have f1:=qDi (-1) [45,49] W15 (hw'.out.le hl15) (by decide+kernel) (by decide);have⟨hle15',hs4',hl15',f1'⟩:=hyd4 hle15 hs4 hl15 f1;clear f1 hl15 hs4 hle15;go_wp2_with (fail);go_at_call 21;refine f1'.out.mono ?_;rintro e W16 ⟨vf1,rfl,hle16,hf1⟩;have hl16:=hl15'.out.trans hle16;have f2:=qDi 1 [49] W16 (hw'.out.le hl16) (by decide+kernel) (by decide);have⟨hle16',hf1',hl16',f2'⟩:=hyd4 hle16 hf1 hl16 f2;clear f2 hl16 hf1 hle16;go_wp2_with (fail);go_at_call 21;refine f2'.out.mono ?_;rintro e W17 ⟨vf2,rfl,hle17,hf2⟩;have hl17:=hl16'.out.trans hle17;have r3:=qLh [qAE (-1),qAE 0,qAE 1] (qAE (-1)) (qAE 1) vp4 vf1 vf2 W17 ((hs4'.out.le hle16'.out).le hle17) (FracL.le hf1'.out hle17).isA hf2.isA (qFz (qHp (qBR (by decide+kernel) (by decide+kernel)) (qBR (by decide+kernel) (by decide+kernel)) (qBR (by decide+kernel) (by decide+kernel))));rw[qND]at r3;have⟨hle17',hf2',hl17',r3'⟩:=hyd4 hle17 hf2 hl17 r3;clear r3 hl17 hf2 hle17;go_wp2_with (fail);go_at_call 35;refine r3'.out.mono ?_;rintro e W18 ⟨rfl,hle18⟩;have hle9_18:=hle10'.out.trans (hle11'.out.trans (hle12'.out.trans (hle13'.out.trans (hle14'.out.trans (hle15'.out.trans (hle16'.out.trans (hle17'.out.trans hle18)))))));have hl18:=hl17'.out.trans hle18;have hsd18:=hsd'.out.le (hle15'.out.trans (hle16'.out.trans (hle17'.out.trans hle18)));have k518:=(hle9_18.block _ (gsl k59'.out)).trans k59'.out;have k718:=(hle9_18.block _ (gsl k7'.out)).trans k7'.out
 have hI318:=hI39'.out.le hle9_18;have hI418:=hI49'.out.le hle9_18
 obtain⟨SA,SC,rfl⟩:∃A c,vd= .slice A 2 c:=by obtain⟨A,c,e,-⟩:=hsd18;exact⟨A,c,e⟩
 have⟨hle18',hle9_18',hl18',hsd18',k518',k718',hI318',hI418'⟩:=hyd8 hle18 hle9_18 hl18 hsd18 k518 k718 hI318 hI418;clear hI418 hI318 k718 k518 hsd18 hl18 hle9_18 hle18;clear hsd' hrow';go_wp2_with (fail);refine qAP (R:=leRel) 28 [some 57,some 58,some 59,some 60,some 61,some 62,some 63,some 64,some 65,some 66,some 67,some 68,some 69,some 70,some 71,some 72,some 73,some 74,some 75,some 76,some 77,some 78,some 79,some 80,some 81,some 82,some 83,some 84,some 15] [[],[0],[1],[2],[2,3],[2,4],[5],[6],[6,7],[6,8],[9],[10],[10,11],[10,12],[13],[14],[14],[14,15,16],[14,17],[18],[19],[19,20],[19,21],[22],[23],[23],[23,24,25],[23,26],[27]]
  [.eq (.int .i64 0),.eq (.bool true),.eq (.bool true),.eq (.int .i64 0),.eq (.bool true),.eq (.bool true),.eq (.bool true),.eq (.string (baL [45,51,47,50])),.eq (.bool true),.eq (.bool true),.eq (.bool true),.eq (.int .i64 0),.eq (.bool true),.eq (.bool true),.eq (.bool true),.eq (.agg #[.bool s6,.slice A6 n6 c6,.bool t6,.slice B6 m6 d6,.bool u6,.slice C6 n7 c7,.bool t7,.slice D6 m7 d7]),MPred.isT (qCr (5,5)),.eq (.bool true),.eq (.bool true),.eq (.bool true),.eq (.int .i64 0),.eq (.bool true),.eq (.bool true),.eq (.bool true),.eq (.agg #[.bool s8,.slice A8 n8 c8,.bool t8,.slice B8 m8 d8,.bool u8,.slice C8 n9 c9,.bool t9,.slice D8 m9 d9]),MPred.isT (qCr (3 / 5,4 / 5)),.eq (.bool true),.eq (.bool true)] (fun _ _=>False) (by kernel_rfl) (by kernel_rfl) (by kernel_rfl) (by kernel_rfl) ?_ (fun _ _ _ _ _ h=>h.elim) ?_
 ·simp only[List.take_succ_cons,List.take_zero];refine mSc ?_ (mSc ?_ (mSc ?_ (mSc ?_ (mSc ?_ (mSc ?_ (mSc ?_ (mSc ?_ (mSc ?_ (mSc ?_ (mSc ?_ (mSc ?_ (mSc ?_ (mSc ?_ (mSc ?_ (mSc ?_ (mSc ?_ (mSc ?_ (mSc ?_ (mSc ?_ (mSc ?_ (mSc ?_ (mSc ?_ (mSc ?_ (mSc ?_ (mSc ?_ (mSc ?_ (mSc ?_ (qAS))))))))))))))))))))))))))))
  ·refine mSl rfl fun x' W hR hf Q hK' _=>?_;simp only[fA]at hK' ⊢;go_wp2;exact hK' _ _ lrR rfl
  ·refine mSl rfl fun x' W hR hf Q hK' _=>?_;obtain⟨e0,-⟩:=hf;change _=_ at e0;simp only[fA,e0]at hK' ⊢;go_wp2;exact hK' _ _ lrR rfl
  ·refine mSl rfl fun x' W hR hf Q hK' _=>?_;obtain⟨e0,-⟩:=hf;change _=_ at e0;simp only[fA,e0]at hK' ⊢;go_wp2;exact hK' _ _ lrR rfl
  ·refine qA1 (fun x' W hf=>?_) fun x' W hR hf Q hK' _=>?_
   ·obtain⟨e0,-⟩:=hf;change _=_ at e0;simp only[fA,e0]
    kernel_rfl
   obtain⟨e0,-⟩:=hf;change _=_ at e0;simp only[fA,e0]at hK' ⊢;go_wp2;exact hK' _ _ lrR rfl
  ·refine qA1 (fun x' W hf=>?_) fun x' W hR hf Q hK' _=>?_
   ·obtain⟨e0,e1,-⟩:=hf;change _=_ at e0 e1;simp only[fA,e0,e1]
    kernel_rfl
   obtain⟨e0,e1,-⟩:=hf;change _=_ at e0 e1;simp only[fA,e0,e1]at hK' ⊢;go_wp2;exact hK' _ _ lrR rfl
  ·refine mSl rfl fun x' W hR hf Q hK' _=>?_;obtain⟨e0,e1,-⟩:=hf;change _=_ at e0 e1;simp only[fA,e0,e1]at hK' ⊢;go_wp2;exact hK' _ _ lrR rfl
  ·refine mSl rfl fun x' W hR hf Q hK' _=>?_;obtain⟨e0,-⟩:=hf;change _=_ at e0;simp only[fA,e0]at hK' ⊢;go_wp2;exact hK' _ _ lrR rfl
  ·refine qA1 (fun x' W hf=>?_) fun x' W hR hf Q hK' _=>?_
   ·obtain⟨e0,-⟩:=hf;change _=_ at e0;simp only[fA,e0]
    kernel_rfl
   obtain⟨e0,-⟩:=hf;change _=_ at e0;simp only[fA,e0]at hK' ⊢;go_wp2;exact hK' _ _ lrR rfl
  ·refine qA1 (fun x' W hf=>?_) fun x' W hR hf Q hK' _=>?_
   ·obtain⟨e0,e1,-⟩:=hf;change _=_ at e0 e1;simp only[fA,e0,e1]
    kernel_rfl
   obtain⟨e0,e1,-⟩:=hf;change _=_ at e0 e1;have hlt:((baL [45,51,47,50]).toList ==[45,51,47,50])=true:=by rw[qCb];rfl
   simp only[fA,e0,e1]at hK' ⊢;go_wp2;exact hK' _ _ lrR rfl
  ·refine mSl rfl fun x' W hR hf Q hK' _=>?_;obtain⟨e0,e1,-⟩:=hf;change _=_ at e0 e1;simp only[fA,e0,e1]at hK' ⊢;go_wp2;exact hK' _ _ lrR rfl
  ·refine mSl rfl fun x' W hR hf Q hK' _=>?_;obtain⟨e0,-⟩:=hf;change _=_ at e0;simp only[fA,e0]at hK' ⊢;go_wp2;exact hK' _ _ lrR rfl
  ·refine qA1 (fun x' W hf=>?_) fun x' W hR hf Q hK' _=>?_
   ·obtain⟨e0,-⟩:=hf;change _=_ at e0;simp only[fA,e0]
    kernel_rfl
   obtain⟨e0,-⟩:=hf;change _=_ at e0;simp only[fA,e0]at hK' ⊢;go_wp2;exact hK' _ _ lrR rfl
  ·refine qA1 (fun x' W hf=>?_) fun x' W hR hf Q hK' _=>?_
   ·obtain⟨e0,e1,-⟩:=hf;change _=_ at e0 e1;simp only[fA,e0,e1]
    kernel_rfl
   obtain⟨e0,e1,-⟩:=hf;change _=_ at e0 e1;simp only[fA,e0,e1]at hK' ⊢;go_wp2;exact hK' _ _ lrR rfl
  ·refine mSl rfl fun x' W hR hf Q hK' _=>?_;obtain⟨e0,e1,-⟩:=hf;change _=_ at e0 e1;simp only[fA,e0,e1]at hK' ⊢;go_wp2;exact hK' _ _ lrR rfl
  ·refine mSl rfl fun x' W hR hf Q hK' _=>?_;obtain⟨e0,-⟩:=hf;change _=_ at e0;simp only[fA,e0]at hK' ⊢;go_wp2;exact hK' _ _ lrR rfl
  ·refine qA1 (fun x' W hf=>?_) fun x' W hR hf Q hK' _=>?_
   ·obtain⟨e0,-⟩:=hf;change _=_ at e0;simp only[fA,e0]
    kernel_rfl
   obtain⟨e0,-⟩:=hf;change _=_ at e0;obtain⟨a0,a1,a2,a3,a4,a5,a6,a7⟩:=qA2 (qCy (show Le W18 W from hR) k518'.out);simp only[fA,e0]at hK' ⊢;go_wp2;exact hK' _ _ lrR rfl
  ·refine qA1 (fun x' W hf=>?_) fun x' W hR hf Q hK' _=>?_
   ·obtain⟨e0,-⟩:=hf;change _=_ at e0;simp only[fA,e0]
    kernel_rfl
   obtain⟨e0,-⟩:=hf;change _=_ at e0;simp only[fA,e0]at hK' ⊢;have hcall:=qGT 5 5 [53] [53] W (hw'.out.le (hl18'.out.trans hR)) (by decide+kernel) (by decide+kernel) (by decide) (by decide);have hcall':=hyd1 hcall;clear hcall;go_wp2_with (fail);go_at_call 30;refine hcall'.out.mono ?_;rintro e w' ⟨v,rfl,y1,y2⟩;have⟨y1',y2'⟩:=hyd2 y1 y2;clear y2 y1;go_wp2;exact hK' _ _ y1'.out y2'.out
  ·refine qA1 (fun x' W hf=>?_) fun x' W hR hf Q hK' _=>?_
   ·obtain⟨e0,e1,e2,-⟩:=hf;change _=_ at e0 e1;simp only[fA,e0,e1]
    kernel_rfl
   obtain⟨e0,e1,e2,-⟩:=hf;change _=_ at e0 e1;replace e2:IsTurnA W (x' 16) _:=e2;simp only[fA,e0,e1]at hK' ⊢;have hcall:=qF6 (qCr (5,5)) (qCr (5,5)) _ _ W (hI318'.out.le hR) e2;rw[qKH]at hcall;have hcall':=hyd1 hcall;clear hcall;go_wp2_with (fail);go_at_call 36;refine hcall'.out.mono ?_;rintro e w' ⟨rfl,y1⟩;have y1':=hyd1 y1;clear y1;go_wp2;exact hK' _ _ y1'.out rfl
  ·refine mSl rfl fun x' W hR hf Q hK' _=>?_;obtain⟨e0,e1,-⟩:=hf;change _=_ at e0 e1;simp only[fA,e0,e1]at hK' ⊢;go_wp2;exact hK' _ _ lrR rfl
  ·refine mSl rfl fun x' W hR hf Q hK' _=>?_;obtain⟨e0,-⟩:=hf;change _=_ at e0;simp only[fA,e0]at hK' ⊢;go_wp2;exact hK' _ _ lrR rfl
  ·refine qA1 (fun x' W hf=>?_) fun x' W hR hf Q hK' _=>?_
   ·obtain⟨e0,-⟩:=hf;change _=_ at e0;simp only[fA,e0]
    kernel_rfl
   obtain⟨e0,-⟩:=hf;change _=_ at e0;simp only[fA,e0]at hK' ⊢;go_wp2;exact hK' _ _ lrR rfl
  ·refine qA1 (fun x' W hf=>?_) fun x' W hR hf Q hK' _=>?_
   ·obtain⟨e0,e1,-⟩:=hf;change _=_ at e0 e1;simp only[fA,e0,e1]
    kernel_rfl
   obtain⟨e0,e1,-⟩:=hf;change _=_ at e0 e1;simp only[fA,e0,e1]at hK' ⊢;go_wp2;exact hK' _ _ lrR rfl
  ·refine mSl rfl fun x' W hR hf Q hK' _=>?_;obtain⟨e0,e1,-⟩:=hf;change _=_ at e0 e1;simp only[fA,e0,e1]at hK' ⊢;go_wp2;exact hK' _ _ lrR rfl
  ·refine mSl rfl fun x' W hR hf Q hK' _=>?_;obtain⟨e0,-⟩:=hf;change _=_ at e0;simp only[fA,e0]at hK' ⊢;go_wp2;exact hK' _ _ lrR rfl
  ·refine qA1 (fun x' W hf=>?_) fun x' W hR hf Q hK' _=>?_
   ·obtain⟨e0,-⟩:=hf;change _=_ at e0;simp only[fA,e0]
    kernel_rfl
   obtain⟨e0,-⟩:=hf;change _=_ at e0;obtain⟨a0,a1,a2,a3,a4,a5,a6,a7⟩:=qA2 (qCy (show Le W18 W from hR) k718'.out);simp only[fA,e0]at hK' ⊢;go_wp2;exact hK' _ _ lrR rfl
  ·refine qA1 (fun x' W hf=>?_) fun x' W hR hf Q hK' _=>?_
   ·obtain⟨e0,-⟩:=hf;change _=_ at e0;simp only[fA,e0]
    kernel_rfl
   obtain⟨e0,-⟩:=hf;change _=_ at e0;simp only[fA,e0]at hK' ⊢;have hcall:=qGT (3 / 5) (4 / 5) [51,47,53] [52,47,53] W (hw'.out.le (hl18'.out.trans hR)) (by decide+kernel) (by decide+kernel) (by decide) (by decide);have hcall':=hyd1 hcall;clear hcall;go_wp2_with (fail);go_at_call 30;refine hcall'.out.mono ?_;rintro e w' ⟨v,rfl,y1,y2⟩;have⟨y1',y2'⟩:=hyd2 y1 y2;clear y2 y1;go_wp2;exact hK' _ _ y1'.out y2'.out
  ·refine qA1 (fun x' W hf=>?_) fun x' W hR hf Q hK' _=>?_
   ·obtain⟨e0,e1,e2,-⟩:=hf;change _=_ at e0 e1;simp only[fA,e0,e1]
    kernel_rfl
   obtain⟨e0,e1,e2,-⟩:=hf;change _=_ at e0 e1;replace e2:IsTurnA W (x' 25) _:=e2;simp only[fA,e0,e1]at hK' ⊢;have hcall:=qF6 (qCr (3 / 5,4 / 5)) (qCr (3 / 5,4 / 5)) _ _ W (hI418'.out.le hR) e2;rw[qKH]at hcall;have hcall':=hyd1 hcall;clear hcall;go_wp2_with (fail);go_at_call 36;refine hcall'.out.mono ?_;rintro e w' ⟨rfl,y1⟩;have y1':=hyd1 y1;clear y1;go_wp2;exact hK' _ _ y1'.out rfl
  ·refine mSl rfl fun x' W hR hf Q hK' _=>?_;obtain⟨e0,e1,-⟩:=hf;change _=_ at e0 e1;simp only[fA,e0,e1]at hK' ⊢;go_wp2;exact hK' _ _ lrR rfl
 intro x' W hR hf Q' hQ1 _;have e27:=hf 27 (by decide);change _=_ at e27;simp only[List.drop_succ_cons,List.drop_zero];rw[show List.range 28=[0,1,2,3,4,5,6,7,8,9,10,11,12,13,14,15,16,17,18,19,20,21,22,23,24,25,26,27]from rfl];simp only[fA,e27];clear e27 hf;have hR':=hyd1 hR;clear hR;go_wp2;refine hQ1 _ _ ?_;clear hQ1;have hl19:=hl18'.out.trans hR'.out;have hsd19:=hsd18'.out.le hR'.out;have p5:=qOH 1 1 [49] [49] W (hw'.out.le hl19) (by decide+kernel) (by decide+kernel) (by decide) (by decide);have⟨hl19',hsd19',p5'⟩:=hyd3 hl19 hsd19 p5;clear p5 hsd19 hl19;go_wp2_with (fail);go_at_call 33;refine p5'.out.mono ?_;rintro e W20 ⟨vp5,rfl,hle20,hs5⟩;have r4:=qIx (.slice SA 2 SC) vp5 [qAE 1,qAE 1] [qAE 1,qAE 1] W20 (hsd19'.out.le hle20) hs5 (by decide);rw[qNN]at r4;have hl20:=hl19'.out.trans hle20;have⟨hle20',hs5',hl20',r4'⟩:=hyd4 hle20 hs5 hl20 r4;clear r4 hl20 hs5 hle20;go_wp2_with (fail);go_at_call 26;refine r4'.out.mono ?_;rintro e W21 ⟨rfl,hle21⟩;have hle21':=hyd1 hle21;clear hle21;go_wp2;go_ret;exact⟨rfl,hl20'.out.trans hle21'.out⟩
def MPred.fV (r:Rat):MPred:=⟨fun v w=>qBI w v r,fun _ _ _ hb h=>FracL.le h hb⟩
theorem qPh (w:World) (o:Obj):(w.alloc o).heap[w.heap.size]? =some o:=heap_alloc_new w o
def frRel:WRel:=⟨fun a b=>a.heap.size≤b.heap.size∧∀v r,qBI a v r→qBI b v r,fun w=>⟨Nat.le_refl _,fun _ _ h=>h⟩,fun h k=>⟨Nat.le_trans h.1 k.1,fun v r x=>k.2 v r (h.2 v r x)⟩,fun w=>⟨Nat.le_refl _,fun _ _ h=>h.le Le.drew⟩⟩
theorem qCg {a b:World} (h:Le a b):frRel.r a b:=⟨h.size,fun _ _ x=>x.le h⟩
def FrPred.frT (r:Rat):MPredR frRel:=⟨fun v w=>∃v',v= .tuple #[v',.int .i64 0]∧qBI w v' r,fun _ _ _ hb ⟨v',e,h⟩=>⟨v',e,hb.2 _ _ h⟩⟩
def FrPred.frV (r:Rat):MPredR frRel:=⟨fun v w=>qBI w v r,fun _ _ _ hb h=>hb.2 _ _ h⟩
def ABoxN (V1:World) (t:TypeId):JRel:=fun D x W=>Le V1 W∧(D 8=true→D 5=true∧D 7=true)∧(D 7=true→∃k,x 7= .pointer (some ⟨k,0,none⟩)∧V1.heap.size≤k∧
 ((D 8=false∧W.heap[k]? =some (.cells #[.bool false,.slice none 0 0,.bool false,.slice none 0 0] t))∨
  (D 8=true∧∃f1 f2 f3 f4 f5 f6 f7 f8,x 5= .agg #[.bool f1,.slice f2 f3 f4,.bool f5,.slice f6 f7 f8]∧W.heap[k]? =some (.cells #[.bool f1,.slice f2 f3 f4,.bool f5,.slice f6 f7 f8] t))))
theorem ABoxN.keep {V1:World} {t:TypeId} {D:Nat→Bool} {x:Nat→Value} {W W':World} {i:Nat} {v:Value} (h:ABoxN V1 t D x W) (h1:(i==7||i==8||i==5)=false) (hle:Le W W'):ABoxN V1 t (updB D i) (updV x i v) W':=by
 simp only[Bool.or_eq_false_iff,beq_eq_false_iff_ne]at h1;obtain⟨⟨n1,n2⟩,n3⟩:=h1;obtain⟨a,b,c⟩:=h;have d31:updB D i 7=D 7:=by unfold updB;rw[if_neg (Ne.symm n1)]
 have d32:updB D i 8=D 8:=by unfold updB;rw[if_neg (Ne.symm n2)]
 have d29:updB D i 5=D 5:=by unfold updB;rw[if_neg (Ne.symm n3)]
 have x31:updV x i v 7=x 7:=by unfold updV;rw[if_neg (Ne.symm n1)]
 have x29:updV x i v 5=x 5:=by unfold updV;rw[if_neg (Ne.symm n3)]
 unfold ABoxN;rw[d31,d32,d29,x31,x29];refine⟨a.trans hle,b,fun h=>?_⟩;obtain⟨k,c1,c2,⟨c3,c4⟩| ⟨c3,f1,f2,f3,f4,f5,f6,f7,f8,c4,c5⟩⟩:=c h
 ·exact⟨k,c1,c2,.inl ⟨c3,bxl hle c4⟩⟩
 ·exact⟨k,c1,c2,.inr ⟨c3,f1,f2,f3,f4,f5,f6,f7,f8,c4,bxl hle c5⟩⟩
theorem ABoxN.take {V1:World} {t:TypeId} {D:Nat→Bool} {x:Nat→Value} {W:World} {v:Value} (h:ABoxN V1 t D x W) (hD:D 5=false):ABoxN V1 t (updB D 5) (updV x 5 v) W:=by
 obtain⟨a,b,c⟩:=h
 have hn:D 8=false:=by
  cases e:D 8 with
  | false=>rfl
  | true=>have:=(b e).1;rw[hD]at this;cases this
 have d31:updB D 5 7=D 7:=rfl;have d32:updB D 5 8=D 8:=rfl;unfold ABoxN;rw[d31,d32];refine⟨a,fun h=>(by rw[hn]at h;cases h),fun h=>?_⟩;obtain⟨k,c1,c2,⟨c3,c4⟩| ⟨c3,-⟩⟩:=c h
 ·exact⟨k,c1,c2,.inl ⟨c3,c4⟩⟩
 ·rw[hn]at c3;cases c3
theorem ABoxN.make {V1:World} {t:TypeId} {D:Nat→Bool} {x:Nat→Value} {W:World} (h:ABoxN V1 t D x W) (hD:D 7=false):
  ABoxN V1 t (updB D 7) (updV x 7 (.pointer (some ⟨W.heap.size,0,none⟩))) (W.alloc (.cells #[.bool false,.slice none 0 0,.bool false,.slice none 0 0] t)):=by
 obtain⟨a,b,c⟩:=h
 have hn:D 8=false:=by
  cases e:D 8 with
  | false=>rfl
  | true=>have:=(b e).2;rw[hD]at this;cases this
 have d32:updB D 7 8=D 8:=rfl;refine⟨a.trans (qAB _ _),fun h=>(by rw[d32,hn]at h;cases h),fun _=>⟨W.heap.size,rfl,a.size,.inl ⟨by rw[d32];exact hn,qPh _ _⟩⟩⟩
theorem ABoxN.ready {V1:World} {t:TypeId} {D:Nat→Bool} {x:Nat→Value} {W:World} (h:ABoxN V1 t D x W) (h1:D 7=true) (h2:D 8=false):
  ∃k,x 7= .pointer (some ⟨k,0,none⟩)∧V1.heap.size≤k∧W.heap[k]? =some (.cells #[.bool false,.slice none 0 0,.bool false,.slice none 0 0] t):=by
 obtain⟨k,c1,c2,⟨c3,c4⟩| ⟨c3,-⟩⟩:=h.2.2 h1
 ·exact⟨k,c1,c2,c4⟩
 ·rw[h2]at c3;cases c3
theorem ABoxN.put {V1:World} {t:TypeId} {D:Nat→Bool} {x:Nat→Value} {W:World} {v:Value} {k:Nat} {f1 f5:Bool} {f2 f6:Option Addr} {f3 f4 f7 f8:Nat} (h:ABoxN V1 t D x W) (h1:D 7=true) (h3:D 5=true) (hk:x 7= .pointer (some ⟨k,0,none⟩)) (hV:V1.heap.size≤k)
  (hx:W.heap[k]? =some (.cells #[.bool false,.slice none 0 0,.bool false,.slice none 0 0] t)) (hf:x 5= .agg #[.bool f1,.slice f2 f3 f4,.bool f5,.slice f6 f7 f8]):
  ABoxN V1 t (updB D 8) (updV x 8 v) ((((W.setCell ⟨k,0,none⟩ (.bool f1)).setCell ⟨k,1,none⟩ (.slice f2 f3 f4)).setCell ⟨k,2,none⟩ (.bool f5)).setCell ⟨k,3,none⟩ (.slice f6 f7 f8))∧
  frRel.r W ((((W.setCell ⟨k,0,none⟩ (.bool f1)).setCell ⟨k,1,none⟩ (.slice f2 f3 f4)).setCell ⟨k,2,none⟩ (.bool f5)).setCell ⟨k,3,none⟩ (.slice f6 f7 f8)):=by
 have ht:=qLl W k (.bool f1) (.slice f2 f3 f4) (.bool f5) (.slice f6 f7 f8);exact⟨⟨qAu h.1 hV,fun _=>⟨h3,h1⟩,fun _=>⟨k,hk,hV,.inr ⟨rfl,f1,f2,f3,f4,f5,f6,f7,f8,hf,qAd hx⟩⟩⟩,by rw[ht.1];exact Nat.le_refl _,fun v r hr=>hr.touch (qPX hx) ht⟩
theorem ABoxN.full {V1:World} {t:TypeId} {D:Nat→Bool} {x:Nat→Value} {W:World} (h:ABoxN V1 t D x W) (h1:D 7=true) (h2:D 8=true):
  ∃k,x 7= .pointer (some ⟨k,0,none⟩)∧V1.heap.size≤k∧∃f1 f2 f3 f4 f5 f6 f7 f8,x 5= .agg #[.bool f1,.slice f2 f3 f4,.bool f5,.slice f6 f7 f8]∧W.heap[k]? =some (.cells #[.bool f1,.slice f2 f3 f4,.bool f5,.slice f6 f7 f8] t):=by
 obtain⟨k,c1,c2,⟨c3,-⟩| ⟨c3,f⟩⟩:=h.2.2 h1
 ·rw[h2]at c3;cases c3
 ·exact⟨k,c1,c2,f⟩
theorem ABoxN.start (V1:World) (t:TypeId) (n:Nat) (hn:8<n):∀D x,(∀j,j<n→D j=false)→ABoxN V1 t D x {V1 with drawn:=V1.drawn+1}:=fun D x hD=>
 ⟨Le.drew,fun h=>(by rw[hD 8 hn]at h;cases h),fun h=>(by rw[hD 7 (by omega)]at h;cases h)⟩
open Go.RowKit
theorem qLt (b:Rat) {z:Int} (hz:z=sg (rneg b) (rnum b / b.den+(if rneg b=true∧rnum b%b.den≠0 then 1 else 0))):z*(b.den:Int)≤b.num∧b.num<(z+1)*(b.den:Int):=by
 subst hz;have hd:0<b.den:=qAU b;obtain⟨q,hq⟩:∃q,rnum b / b.den=q:=⟨_,rfl⟩;obtain⟨m,hm⟩:∃m,rnum b%b.den=m:=⟨_,rfl⟩;have hdm:b.den*q+m=rnum b:=by rw[←hq,←hm];exact Nat.div_add_mod _ _
 have hml:m<b.den:=by rw[←hm];exact Nat.mod_lt _ hd
 have hdi:((b.den*q+m:Nat):Int)=((rnum b:Nat):Int):=by rw[hdm]
 rw[Int.natCast_add,Int.natCast_mul]at hdi
 have ha:((rnum b:Nat):Int)=if b.num<0 then -b.num else b.num:=by
  unfold rnum
  split<;>omega
 rw[hq,hm];have hs:rneg b=decide (b.num<0):=rfl;rw[hs];have hmi:(m:Int)<(b.den:Int):=by omega
 have hm0:(0:Int)≤(m:Int):=by omega
 generalize (b.den:Int)=d at hdi hmi ⊢
 by_cases hn:b.num<0
 ·rw[if_pos hn]at ha;rw[decide_eq_true hn]
  by_cases h0:m=0
  ·rw[if_neg (by simp[h0])];have e:sg true (q+0)= -(q:Int):=by unfold sg;simp
   rw[e];subst h0;rw[Int.add_mul,Int.neg_mul,Int.mul_comm (q:Int) d];omega
  ·rw[if_pos ⟨rfl,h0⟩];have e:sg true (q+1)= -((q:Int)+1):=by unfold sg;simp
   rw[e,show -((q:Int)+1)+1= -(q:Int)by omega,Int.neg_mul,Int.neg_mul,Int.add_mul,Int.mul_comm (q:Int) d];omega
 ·rw[if_neg hn]at ha;rw[decide_eq_false hn,if_neg (by simp)];have e:sg false (q+0)=(q:Int):=by unfold sg;simp
  rw[e,Int.add_mul,Int.mul_comm (q:Int) d];omega
theorem qNO (r h:Rat) (hh:h+h=1) {z:Int} (hz:z*((r+h).den :Int)≤(r+h).num ∧(r+h).num <(z+1)*((r+h).den :Int)):0<(z:Rat) - r+h∧(z:Rat) - r - h≤0:=by
 obtain⟨h1,h2⟩:=hz;have hd:(0:Rat)<(((r+h).den :Int):Rat):=Rat.intCast_pos.2 (by have:=qAU (r+h);omega);have e:r+h=(((r+h).num :Int):Rat) / (((r+h).den :Int):Rat):=qCw (r+h);have h3:((z*((r+h).den :Int):Int):Rat)≤(((r+h).num :Int):Rat):=Rat.intCast_le_intCast.2 h1;have h4:(((r+h).num :Int):Rat)<(((z+1)*((r+h).den :Int):Int):Rat):=Rat.intCast_lt_intCast.2 h2;rw[Rat.intCast_mul]at h3 h4
 have h5:(z:Rat)≤r+h:=by
  rw[e];exact Rat.not_lt.1 fun hc=>(Rat.not_lt.2 h3) ((Rat.div_lt_iff hd).1 hc)
 have h6:r+h<((z+1:Int):Rat):=by
  rw[e];exact(Rat.div_lt_iff hd).2 h4
 rw[Rat.intCast_add]at h6;have h7:((1:Int):Rat)=1:=rfl;rw[h7]at h6;clear e h1 h2 h3 h4 hd;constructor<;>grind
end Go.Proofs.YtenjpccpldajoaaGreatDoor
