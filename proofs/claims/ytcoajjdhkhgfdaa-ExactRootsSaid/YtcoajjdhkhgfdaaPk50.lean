/- Roots, the reference: chain. (The regions between --@ARM and --@END are printed by gen_rootr.py.) -/
import Derived.Test.YtcoajjdhkhgfdaaPk49
namespace Go.Proofs.Ytcoajjdhkhgfdaa
set_option maxRecDepth 100000
set_option maxHeartbeats 2000000
open Go.RowKit Go.Shelf
set_option linter.unusedVariables false
set_option linter.unusedSimpArgs false
structure StepRoom (a q:List Rat):Prop where
 qz:∀r∈q,Rsz r 2000000
 sc:∀r∈qAJ q,Rsz r 2000000
 sP:∀s,s<=a.length - (qAJ q).length +1->∀r∈divS a (qAJ q) (a.length - (qAJ q).length) s,Rsz r 2000000
 sM:(qAJ q).length <=a.length->∀s,s<=a.length - (qAJ q).length ->∀k,Rsz (divC (divS a (qAJ q) (a.length - (qAJ q).length) s) (qAJ q) (a.length - (qAJ q).length - s)*(qAJ q).getD k 0) 2000000
inductive ChQRoom:Nat->List Rat->List Rat->Prop
 | stop {f:Nat} {a q:List Rat}:q.length=0->ChQRoom f a q
 | step {f:Nat} {a q:List Rat}:StepRoom a q->ChQRoom f (qAJ q) (negQ (qAI a (qAJ q)))->ChQRoom (f+1) a q
theorem ChQRoom.split {f:Nat} {a q:List Rat} (h:ChQRoom (f+1) a q) (h0:q.length≠0):StepRoom a q/\ChQRoom f (qAJ q) (negQ (qAI a (qAJ q))):=by
 cases h with
 | stop h=>exact absurd h h0
 | step h1 h2=>exact⟨h1,h2⟩
structure ChQOk (p:List Rat):Prop where
 l66:p.length<=66
 pos:p.length≠0
 top:qAD p=true
 sz:∀r∈p,Rsz r 2000000
 room:ChQRoom p.length p (derQ p)
structure ChQSt (L0:List (List Rat)) (a q:List Rat) (L:List (List Rat)) (f:Nat):Prop where
 la:a.length<=66
 lb:q.length<=66
 ta:qAD a=true
 tb:qAD q=true
 fuel:q.length<=f
 room:ChQRoom f a q
 go:chQ f a q L=L0
 len:L.length+q.length<=67
 pos:L.length≠0
 lst:∀h:L.length - 1<L.length,L[L.length - 1]=a
theorem qJE {f:Nat} {a b:List Rat} {L:List (List Rat)} (h:b.length=0):chQ f a b L=L:=by
 cases f with
 | zero=>rfl
 | succ f=>unfold chQ;rw[if_pos h]
theorem ChQSt.next {L0:List (List Rat)} {a q:List Rat} {L:List (List Rat)} {f:Nat} (h:ChQSt L0 a q L f) (h0:q.length≠0):
  ∃g,ChQSt L0 (qAJ q) (negQ (qAI a (qAJ q))) (L++[qAJ q]) g/\(negQ (qAI a (qAJ q))).length <q.length/\StepRoom a q:=by
 obtain⟨t,v,c,o,p,b,j,r,s,k⟩:=h
 cases f with
 | zero=>omega
 | succ g=>
  obtain⟨i,b⟩:=b.split h0;have d:=qD3 o;have n:=qCV q;have l:=qDi c d (by omega);have m:=qDj (qAI a (qAJ q));refine⟨g,⟨by omega,by omega,d,qGB (qBZ c),by omega,b,?_,by rw[List.length_append,List.length_singleton];omega,by rw[List.length_append,List.length_singleton];omega,λh=>?_⟩,by omega,i⟩
  ·rw[<-j,chQ,if_neg h0]
  ·rw[List.getElem_append_right (by rw[List.length_append,List.length_singleton];omega)];simp
theorem RowE.staysK {α:Type} {K:EK α} {e:TypeId} {w w':World} {base:Nat} {v:Value} {xs:List α} (h:RowE K e base w v xs) (hk:Kp K.ik w w') (hst:∀(g:Nat) (cur:Array Value),w.heap[g]? =some (Obj.cells cur e)->w'.heap[g]? =w.heap[g]?):RowE K e base w' v xs:=
 h.keep hk λg hg=>by
  obtain⟨cur,h8⟩:=h.tag hg;exact hst g cur h8
theorem qMG {r:Rat} {m:Nat} (h:Rsz r m):Rsz (-r) m:=by
 obtain⟨b,c⟩:=h;refine⟨?_,by rw[Rat.neg_den];exact c⟩;have e:rnum (-r)=rnum r:=by unfold rnum;rw[Rat.neg_num,Int.natAbs_neg]
 rw[e];exact b
theorem qGc (v:Value) (p:List Rat) (w:World) (hv:RowE (ratK .i64) 63 0 w v p) (hp:ChQOk p):
  Calls Try.prog 29 #[v] w λe w'=>∃v',e= .returned v'/\Le w w'/\RowsJ (ratK .i64) 63 51 w.heap.size w' v' (qBS p):=by
 have bl:=qFD;have bk:(Try.prog.info? 51).map (λi=>(i.zero,i.size,i.bytes))=some (some (.slice none 0 0),1,24):=by kernel_rfl
 have eL:(63:TypeId)≠51:=by decide
 obtain⟨a6,c6,rfl⟩:=hv.slice;obtain⟨np,cG⟩:∃n,p.length=n:=⟨_,rfl⟩;obtain⟨W7,d0,bc,k7⟩:=enew w (.cells #[.slice a6 p.length c6] 51);have bu:=hv.le bc;have dF:RowsJ (ratK .i64) 63 51 w.heap.size W7 (.slice (some ⟨w.heap.size,0,none⟩) 1 1) [p]:=RowsJ.mk1 k7 (Nat.le_refl _) bu;have k8:=qFM 0 _ p W7 bu (by have:=hp.l66;omega) (λr hr=>qA0 (hp.sz r hr) (by decide));obtain⟨L0,bE⟩:∃l,qBS p=l:=⟨_,rfl⟩;have dA:=qBs p;have cn:ChQSt L0 p (derQ p) [p] p.length:=⟨hp.l66,by have:=hp.l66;omega,hp.top,qC9 hp.top,by omega,hp.room,by rw[<-bE];rfl,by have:=hp.l66;simp;omega,by simp,λ_=>rfl⟩;rw[bE];rw[cG]at hv d0 k7 bu k8 ⊢;have⟨ge,gb,d4,gm,ft,dG,eQ,cT⟩:=hyd8 hv hp bc k7 bu dF k8 cn;have⟨fq,fi,fm,aH⟩:=hyd4 cG bE dA bl;clear bl dA bE cG cn k8 dF bu k7 bc hp hv;have bJ:=hyd1 bk;clear bk;go_enter Try.func29,Try.ntmps29;go_wp2_with (fail);clear d0;go_at_call 57;refine eQ.out.mono ?_;rintro e W8 ⟨v8,rfl,aK,cK⟩;have dV:Below w.heap.size w W8:=(show Le w W7 from d4.out).trans aK;have dH:=dG.out.le aK;have ch:=cK.base (base':=0) (Nat.zero_le _);have⟨eG,fu,dW,dI,cL⟩:=hyd5 aK cK dV dH ch;clear ch dH dV cK aK;go_wp2_with (fail);go_loopw [3,4] (λsl sb wr=>∃(a q:List Rat) (L:List (List Rat)) (f:Nat),Hid (Below w.heap.size w wr)/\Hid (RowE (ratK .i64) 63 0 wr sb q)/\Hid (RowsJ (ratK .i64) 63 51 w.heap.size wr sl L)/\Hid (ChQSt L0 a q L f)) (λ_ sb _=>qBa sb)
 case atStart=>exact⟨_,_,_,_,dW,cL,dI,cT⟩
 case round=>
  obtain⟨a0,q,L,f,hw,dO,dN,dT⟩:=hrel;have b8:=hw.out;have U:=dO.out;have P:=dN.out;have E:=dT.out;clear hw dO dN dT;obtain⟨Aq,cq,rfl⟩:=U.slice;obtain⟨Al,cl,rfl⟩:=P.slice;obtain⟨nq,an⟩:∃n,q.length=n:=⟨_,rfl⟩;obtain⟨nl,a7⟩:∃n,L.length=n:=⟨_,rfl⟩;have dE:=E.len;have eH:=E.lb;rw[a7,an]at dE;rw[an]at eH
  by_cases h0:nq=0
  ·have e9:L0=L:=by rw[<-E.go];exact qJE (by omega)
   rw[an]at U ⊢;rw[a7]at P ⊢;have j1:¬(0:Int)<(nq:Int):=by omega
   subst h0;have⟨aM,aB,a9,X,eB,C,aa⟩:=hyd7 b8 U P E e9 an a7;clear a7 an e9 E P U b8;go_wp2;go_ret;exact⟨_,rfl,aM.out,by rw[eB.out];exact a9.out⟩
  ·have bM:q.length≠0:=by omega
   obtain⟨f2,dL,bq,b1⟩:=E.next bM;have gf:=b8.size;have dJ:=qBD E.tb bM;rw[an]at U bq ⊢;rw[a7]at P ⊢;have j1:(0:Int)<(nq:Int):=by omega
   have j2:0<nq:=by omega
   have⟨aM,aB,a9,X,C,aa,dM,cE⟩:=hyd8 b8 U P E an a7 dL bq;have⟨af,dK,fs⟩:=hyd3 b1 dJ bM;clear bM dJ b1 bq dL a7 an E P U b8;go_wp2_with (fail);rename World=>wy
   go_loopw [5,6] (λs i wr=>∃k:Nat,i= .int .i64 (k:Int)/\k<=nq/\Hid (Below wy.heap.size wy wr)/\Hid (RowE (ratK .i64) 63 wy.heap.size wr s ((q.take k).map λr=>r / rabs (qAP q)))) (λ_ i _=>nq - (intOf i).toNat)
   case atStart=>exact⟨0,rfl,Nat.zero_le _,Lib.hid (Below.refl _ _),Lib.hid (RowE.nil _ _ _ _)⟩
   case round=>
    obtain⟨k,rfl,hk,hb,ab⟩:=hrel
    by_cases cD:k<nq
    ·have aU:k<q.length:=by rw[C.out];exact cD
     obtain⟨t,ht⟩:∃t,nq=t+1:=⟨nq - 1,by omega⟩;have b4:t<q.length:=by rw[C.out];omega
     obtain⟨g,c',z,-,aT,-,-,cs,bv,hc⟩:=(aB.out.le hb.out).at aU;rw[C.out]at z;injection z with z e2 e3;subst z e3;clear e2;obtain⟨g2,fR,z,-,-,-,-,fU,bw,bh⟩:=(aB.out.le hb.out).at b4;rw[C.out]at z;injection z with z e2 e3;injection z with z;injection z with z;subst z;clear e2 e3;have ax:q[t]=qAP q:=by unfold qAP;rw[List.getD_eq_getElem?_getD,C.out,show nq - 1=t by omega,List.getElem?_eq_getElem b4];rfl
     have ah:q.take (k+1)=q.take k++[q[k]]:=by rw[List.take_succ_eq_append_getElem aU]
     have cP:Rsz q[k] 2000000:=af.out.qz _ (List.getElem_mem aU);have aW:Rsz q[t] 2000000:=af.out.qz _ (List.getElem_mem b4);have al:=dK.out;rw[ax]at bw aW;generalize q[k]=a at bv ah cP;obtain⟨b,bG⟩:∃b,qAP q=b:=⟨_,rfl⟩;have j:=ab.out;rw[bG]at bw aW al j;obtain⟨db,aS⟩:∃d,rabs b=d:=⟨_,rfl⟩;rw[aS]at j;have dB:db≠0:=by rw[<-aS];exact Rat.ne_of_gt (qGA al)
     have dQ:Rsz db 2000000:=by
      rw[<-aS];unfold rabs
      split
      ·exact qMG aW
      ·exact aW
     obtain⟨s5,A5,n5,c5,B5,m5,d5,rfl,ad⟩:=bv;obtain⟨s6,A6,n6,c6,B6,m6,d6,rfl,c2⟩:=bw;obtain⟨SA,sc,aq⟩:=j.slice;have a3:((q.take k).map λr=>r / db).length =k:=by rw[List.length_map,List.length_take,C.out];omega
     rw[a3]at aq;subst aq;have ap:((q.take (k+1)).map λr=>r / rabs (qAP q))=((q.take k).map λr=>r / db)++[a / db]:=by rw[ah,List.map_append,bG,aS];rfl
     have y0:wr.cell? ⟨g,t*3,none⟩=some (.bool s6):=bh 0 _ rfl;have y1:wr.cell? ⟨g,t*3+1,none⟩=some (.slice A6 n6 c6):=bh 1 _ rfl;have y2:wr.cell? ⟨g,t*3+2,none⟩=some (.slice B6 m6 d6):=bh 2 _ rfl;obtain⟨W4,eC,aR,k4⟩:=enew wr (.cells #[.bool s6,.slice A6 n6 c6,.slice B6 m6 d6] 63);obtain⟨G,bc⟩:∃b,wr.heap.size=b:=⟨_,rfl⟩;rw[bc]at k4;obtain⟨p0,p1,p2,w0,w1,w2⟩:=qAB k4;have bg:=c2.le aR
     have b3:rsgn b=if b<0 then -1 else 1:=by
      split
      ·rename_i h;exact qFL h
      ·rename_i h;exact qGC (Rat.lt_of_le_of_ne (Rat.not_lt.1 h) (Ne.symm al))
     have kc:=qCc (λ_=>True) b _ W4 bg;rw[b3]at kc;have j3:(k:Int)<(nq:Int):=by omega
     have j4:(0:Int)<=(k:Int):=by omega
     have j5:(nq:Int) - 1=(t:Int):=by omega
     have j6:(t:Int)<(nq:Int):=by omega
     have j7:(0:Int)<=(t:Int):=by omega
     have⟨c0,cO,bH,fl,ep,dU,dP,fy⟩:=hyd8 hb ab hc bh ax ah cP aW;have⟨eI,fj,x,cf⟩:=hyd4 al bG j aS;clear aS j bG al aW cP ah ax bh hc ab hb;have⟨dC,dR,aj,fk,bp,a8,gd,aF⟩:=hyd8 dB dQ ad c2 a3 ap ht aR;have⟨bT,c8,eK⟩:=hyd3 k4 bg b3;clear b3 bg k4 aR ht ap a3 c2 ad dQ dB;have de:=hyd1 kc;clear kc;go_wp2_with (fail);clear eC;clear w0 w1 w2 y0 y1 y2;go_at_call 45;refine de.out.mono ?_;rintro e W5 ⟨rfl,O⟩;have k5:=(O.block G (gsl bT.out)).trans bT.out;have d8:=gsl k5;have Z:=c8.out.le O;have N:Le wr W5:=(show Le wr W4 from aF.out).trans O;clear p0 p1 p2;obtain⟨p0,p1,p2,w0,w1,w2⟩:=qAB k5
     by_cases I:b<0
     rw[if_pos I];have av:db= -b:=by rw[<-cf.out];unfold rabs;rw[if_pos I]
     have km:=qC1 (λ_=>True) b _ W5 Z;rw[<-av]at km;have⟨a1,bU,au,J,a4,bj,bV⟩:=hyd7 O k5 Z N I av km;clear km av I N Z k5 O;go_wp2_with (fail);go_at_call 56;refine bV.out.mono ?_;rintro e W6 ⟨v6,rfl,aJ,cA⟩;obtain⟨s7,A7,n7,c7,B7,m7,d7,rfl⟩:=cA.frm;have k6:=(aJ.block G d8).trans bU.out;clear p0 p1 p2 w0 w1 w2;obtain⟨p0,p1,p2,w0,w1,w2⟩:=qAB k6;have bo:Le wr W6:=(show Le wr W5 from J.out).trans aJ;have⟨cC,cg,dc,aI⟩:=hyd4 aJ cA k6 bo;clear bo k6 cA aJ;go_wp2_with (fail);clear p0 p1 p2 w0 w1 w2;have nb:NIB .i64 W6 G:=qL5 dc.out;have dD:=(qCX (k:= .i64) [.bool s7,.slice A7 n7 c7,.slice B7 m7 d7] W6 0 nb (λu hu=>by simp only[List.mem_cons,List.not_mem_nil,or_false]at hu;rcases hu with rfl|rfl|rfl<;>first |exact qAO _|exact qAF _ _ _)).1;have y:=cg.out.kp dD;have o:=qAu (n:=wr.heap.size) (g:=G) (by omega) [.bool s7,.slice A7 n7 c7,.slice B7 m7 d7] 0 wr W6 aI.out;have kV:=qC2 (qC2 (qC2 dc.out 0 (.bool s7)) 1 (.slice A7 n7 c7)) 2 (.slice B7 m7 d7);change RatL _ _ (((W6.setCell ⟨G,0,none⟩ (.bool s7)).setCell ⟨G,1,none⟩ (.slice A7 n7 c7)).setCell ⟨G,2,none⟩ (.slice B7 m7 d7)) _ _ at y;change Below _ _ (((W6.setCell ⟨G,0,none⟩ (.bool s7)).setCell ⟨G,1,none⟩ (.slice A7 n7 c7)).setCell ⟨G,2,none⟩ (.slice B7 m7 d7))at o;change (((W6.setCell ⟨G,0,none⟩ (.bool s7)).setCell ⟨G,1,none⟩ (.slice A7 n7 c7)).setCell ⟨G,2,none⟩ (.slice B7 m7 d7)).heap[_]? =_ at kV
     generalize ((W6.setCell ⟨G,0,none⟩ (.bool s7)).setCell ⟨G,1,none⟩ (.slice A7 n7 c7)).setCell ⟨G,2,none⟩ (.slice B7 m7 d7)=V at y o kV ⊢;clear dD nb dc aI cg cC bV bj a4 J au bU a1;have cd:∃s A n c B m d,V.heap[G]? =some (.cells #[.bool s,.slice A n c,.slice B m d] 63)/\RatL (λ_=>True) .i64 V (.agg #[.bool s,.slice A n c,.slice B m d]) db:=⟨_,_,_,_,_,_,_,kV,y⟩;clear kV y
     rotate_left
     try rw[if_neg I]
     have av:db=b:=by rw[<-cf.out];unfold rabs;rw[if_neg I]
     have y:=Z;have kV:=k5;have o:=N;rw[<-av]at y;have⟨a1,bU,au,J,a4,bj,aG,dd⟩:=hyd8 O k5 Z N I av y kV;have a2:=hyd1 o;clear o kV y av I N Z k5 O
     try go_wp2_with (fail)
     clear p0 p1 p2 w0 w1 w2;have y:=aG.out;have kV:=dd.out;have o:=a2.out;clear bj a4 J au bU a1 aG dd a2;generalize W5=V at y o kV ⊢;have cd:∃s A n c B m d,V.heap[G]? =some (.cells #[.bool s,.slice A n c,.slice B m d] 63)/\RatL (λ_=>True) .i64 V (.agg #[.bool s,.slice A n c,.slice B m d]) db:=⟨_,_,_,_,_,_,_,kV,y⟩;clear kV y
     all_goals
      obtain⟨s7,A7,n7,c7,B7,m7,d7,kV,y⟩:=cd;have d9:Below wy.heap.size wy V:=(show Below wy.heap.size wy wr from c0.out.out).trans (o.mono c0.out.out.size);have j:=x.out.le o;have ad:=aj.out.le o;have cB:g<V.heap.size:=Nat.lt_of_lt_of_le aT o.size;have bd:=gsl kV;have x0:V.cell? ⟨g,k*3,none⟩=some (.bool s5):=(Below.cell o (p:=⟨g,k*3,none⟩) aT).trans (bH.out 0 _ rfl);have x1:V.cell? ⟨g,k*3+1,none⟩=some (.slice A5 n5 c5):=(Below.cell o (p:=⟨g,k*3+1,none⟩) aT).trans (bH.out 1 _ rfl);have x2:V.cell? ⟨g,k*3+2,none⟩=some (.slice B5 m5 d5):=(Below.cell o (p:=⟨g,k*3+2,none⟩) aT).trans (bH.out 2 _ rfl);have r0:V.cell? ⟨G,0,none⟩=some (.bool s7):=cell_of_row V G 0 _ _ _ kV;have r1:V.cell? ⟨G,1,none⟩=some (.slice A7 n7 c7):=cell_of_row V G 1 _ _ _ kV;have r2:V.cell? ⟨G,2,none⟩=some (.slice B7 m7 d7):=cell_of_row V G 2 _ _ _ kV;have cj:=qA0 dP.out (show 2000000<=5000000 by decide);have ck:=qA0 dR.out (show 2000000<=5000000 by decide);clear x aj;have⟨dd,aG,cb,x,aj,eY,eZ,fa⟩:=hyd8 kV y d9 j ad x0 x1 x2;have⟨eU,eV,eW,cQ⟩:=hyd4 r0 r1 r2 cj;clear cj r2 r1 r0 x2 x1 x0 ad j d9 y kV;have⟨cS,a2⟩:=hyd2 ck o;clear o ck;refine qB9 (R:=leRel) 8 [some 35,some 36,some 37,some 38,some 39,some 40,some 41,some 42,some 43,some 5] [[],[],[],[1,2],[3],[],[4,5],[6],[0,7],[8]]
       [.eq (.slice SA k sc),.eq (.slice (some ⟨g,0,none⟩) nq cq),.eq (.int .i64 (k:Int)),.eq (.pointer (some ⟨g,k*3,none⟩)),.eq (.agg #[.bool s5,.slice A5 n5 c5,.slice B5 m5 d5]),.eq (.agg #[.bool s7,.slice A7 n7 c7,.slice B7 m7 d7]),MPred.ratW (a / db),MPred.oneQ (a / db)] (λ_ _=>False) (by kernel_rfl) (by kernel_rfl) (by kernel_rfl) (by kernel_rfl) (by kernel_rfl) ?_ (λ_ _ _ _ h=>h.elim) ?_
      ·simp only[List.take_succ_cons,List.take_zero];refine sMc rfl ?_ (sMc rfl ?_ (sMc rfl ?_ (sMc rfl ?_ (sMc rfl ?_ (sMc rfl ?_ (sMc rfl ?_ (sMc rfl ?_ (qA2))))))))
       ·intro xv W Y hf Q hK hP;simp only[fA]at hK ⊢;go_wp2;exact hK _ _ lrR rfl
       ·intro xv W Y hf Q hK hP;simp only[fA]at hK ⊢;go_wp2;exact hK _ _ lrR rfl
       ·intro xv W Y hf Q hK hP;simp only[fA]at hK ⊢;go_wp2;exact hK _ _ lrR rfl
       ·intro xv W Y hf Q hK hP;obtain⟨e0,z,-⟩:=hf;change _=_ at e0 z;simp only[fA,e0,z]at hK ⊢;go_wp2;exact hK _ _ lrR rfl
       ·intro xv W Y hf Q hK hP;obtain⟨e0,-⟩:=hf;change _=_ at e0;have t0:=(Below.cell Y (p:=⟨g,k*3,none⟩) cB).trans eY.out;have t1:=(Below.cell Y (p:=⟨g,k*3+1,none⟩) cB).trans eZ.out;have t2:=(Below.cell Y (p:=⟨g,k*3+2,none⟩) cB).trans fa.out;simp only[fA,e0]at hK ⊢;go_wp2;exact hK _ _ lrR rfl
       ·intro xv W Y hf Q hK hP;have t0:=(Below.cell Y (p:=⟨G,0,none⟩) bd).trans eU.out;have t1:=(Below.cell Y (p:=⟨G,1,none⟩) bd).trans eV.out;have t2:=(Below.cell Y (p:=⟨G,2,none⟩) bd).trans eW.out;simp only[fA]at hK ⊢;go_wp2;exact hK _ _ lrR rfl
       ·intro xv W Y hf Q hK hP;obtain⟨e0,z,-⟩:=hf;change _=_ at e0 z;simp only[fA,e0,z]at hK ⊢;have kc:=qEv (λ_=>True) a db _ _ W (Up.any _) (aj.out.le Y) (aG.out.le Y) cQ.out cS.out dC.out;have de:=hyd1 kc;clear kc;go_wp2_with (fail);go_at_call 58;refine de.out.mono ?_;rintro e w' ⟨v',rfl,y1,y2⟩;obtain⟨vs,vA,vn,vc,vB,vm,vd,rfl⟩:=y2.frm;have⟨fb,fc⟩:=hyd2 y1 y2;clear y2 y1;go_wp2;exact hK _ _ fb.out fc.out
       ·intro xv W Y hf Q hK hP;obtain⟨e0,-⟩:=hf;replace e0:RatL (λ_=>True) .i64 W (xv 6) (a / db):=e0;obtain⟨ws,wA,wn,wc,wB,wm,wd,qw⟩:=e0.frm;rw[qw]at e0;simp only[fA,qw]at hK ⊢;obtain⟨V4,fZ,aR,k4⟩:=enew W (.cells #[.bool ws,.slice wA wn wc,.slice wB wm wd] 63);have⟨eA,aF,bT⟩:=hyd3 e0 aR k4;clear k4 aR e0;go_wp2;exact hK _ _ aF.out ⟨_,_,_,_,_,_,_,_,rfl,bT.out,eA.out.le aF.out⟩
      intro xv W Y hf Q' dw _;obtain⟨B9,s3,A3,n3,c3,B3,m3,d3,qv,kq,dt⟩:∃B s A n c D m d,xv 7= .slice (some ⟨B,0,none⟩) 1 1/\W.heap[B]? =some (.cells #[.bool s,.slice A n c,.slice D m d] 63)/\RatL (λ_=>True) .i64 W (.agg #[.bool s,.slice A n c,.slice D m d]) (a / db):=hf 7 (by decide);have e0:=hf 0 (by decide);change _=_ at e0;simp only[List.drop_succ_cons,List.drop_zero];rw[show List.range 8=[0,1,2,3,4,5,6,7]from rfl];simp only[fA,qv,e0];clear hf;clear qv e0;have ar:Below wy.heap.size wy W:=cb.out.trans (Y.mono cb.out.size);have T:=x.out.le Y;have eN:=ar.size;have am:=qCT kq;have⟨be,ag,a5,gn,du,fY⟩:=hyd6 ar T am kq dt Y;clear Y dt kq am T ar;refine RowE.append ag.out rfl _ _ 51 rfl 56 (.agg #[.bool false,.slice none 0 0,.slice none 0 0]) (by decide) Try.underlying51 aH.out rfl qD1 rfl B9 rfl (cs:=[.bool s3,.slice A3 n3 c3,.slice B3 m3 d3]) ⟨_,_,_,_,_,_,_,rfl,du.out⟩ a5.out (by rw[bp.out];omega) eN ?_;intro v7 W7 q1 q2 q3 q4 q5;have r3:Below wy.heap.size wy W7:=(show Below wy.heap.size wy W from be.out).trans q2;rw[<-a8.out]at q1;have⟨b9,eb,ec,ed,eT,df⟩:=hyd6 q1 q2 q3 q4 q5 r3;clear r3 q5 q4 q3 q2 q1;go_wp2;refine dw _ _ ?_;clear dw;go_wp2;go_roundw
      case rel=>exact⟨k+1,by go_num,by omega,df,b9⟩
      case measure=>simp[intOf];omega
    ·obtain rfl:nq=k:=by omega
     have j3:¬(nq:Int)<(nq:Int):=by omega
     have c1:=hb.out;have S:=ab.out;have cR:((q.take nq).map λr=>r / rabs (qAP q))=qAJ q:=by unfold qAJ;rw[<-C.out,List.take_length]
     rw[cR]at S;have aq:=qCV q;rw[C.out]at aq;obtain⟨SA,sc,dS⟩:=S.slice;rw[aq]at dS;subst dS;have bz:=a9.out.le c1;have cJ:=X.out.pos;rw[aa.out]at cJ;obtain⟨tl,cU⟩:∃t,nl=t+1:=⟨nl - 1,by omega⟩;have b4:tl<L.length:=by rw[aa.out];omega
     obtain⟨gl,c9,A,m,d,z,-,aT,x0,bN⟩:=bz.at b4;rw[aa.out]at z;injection z with z e2 e3;subst z e3;clear e2
     have bm:L[tl]=a0:=by
      have h1:=X.out.lst;simp only[aa.out,cU,Nat.add_sub_cancel]at h1;exact h1 (by omega)
     rw[bm]at bN;have cV:=qD3 X.out.tb;have b0:=af.out;have bt:(qAJ q).length ≠0:=by rw[aq];omega
     have kd:=qEg 0 _ _ _ a0 (qAJ q) wr bN S (Nat.zero_le _) (by omega) (qB1 cV bt) (by have:=X.out.la;omega) (by omega) b0.sc b0.sP b0.sM;have j4:(nl:Int) - 1=(tl:Int):=by omega
     have j5:(tl:Int)<(nl:Int):=by omega
     have j6:(0:Int)<=(tl:Int):=by omega
     have⟨c0,cO,d1,bQ,fz,f0,cM,fv⟩:=hyd8 hb ab c1 S cR aq bz bN;have⟨eF,f4,fw,eR⟩:=hyd4 bm cV b0 kd;clear kd b0 cV bm bN bz aq cR S c1 ab hb;have⟨f3,fr,eJ⟩:=hyd3 cU cJ bt;clear bt cJ cU;go_wp2_with (fail);clear x0;go_at_call 59;refine eR.out.mono ?_;rintro e bC ⟨va,vr,rfl,ay,-,aV⟩;obtain⟨R,bF⟩:∃l,qAI a0 (qAJ q)=l:=⟨_,rfl⟩;rw[bF]at aV;obtain⟨Ar,cr,rfl⟩:=aV.slice;have cy:R.length<nq:=by have h1:=cE.out;rw[qDj,bF]at h1;exact h1
     obtain⟨nt,cH⟩:∃n,R.length=n:=⟨_,rfl⟩;obtain⟨bD,dy,aD,cX⟩:=enew bC (.cells #[.slice SA nq sc] 51);have M:=ay.trans aD;have aL:Below w.heap.size w wr:=aM.out.trans (d1.out.mono aM.out.size);have b5:Below w.heap.size w bD:=aL.trans (M.mono aL.size);have dZ:=b5.size;have b2:=(bQ.out.le M).base (base':=0) (Nat.zero_le _);have bb:=aV.le aD;have bx:=cM.out.le M;have bi:bD.cell? ⟨bC.heap.size,0,none⟩=some (.slice SA nq sc):=cell_of_row bD bC.heap.size 0 _ _ _ cX;rw[cH]at aV bb cy ⊢;have⟨er,fx,dx,bZ,ao,eD,f8,es⟩:=hyd8 ay aV bF cy cH aD cX M;have⟨eM,cW,bS,cw⟩:=hyd4 aL b5 b2 bb;clear bb b2 b5 aL M cX aD cH cy bF aV ay;have⟨bO,bI⟩:=hyd2 bx bi;clear bi bx;go_wp2_with (first | (at_builtin;go_must (refine RowsJ.append (K:=ratK .i64) eL bO.out rfl _ _ 67 rfl Try.underlying67 bJ.out rfl bC.heap.size rfl bS.out bI.out (by rw[aa.out];omega) dZ ?_)));intro gy F q1 q2 q3 q4;have co:Below w.heap.size w F:=(show Below w.heap.size w bD from cW.out).trans q2;have bY:=cw.out.staysK q3 q4;have⟨b9,eb,ec,ed,b6,cx⟩:=hyd6 q1 q2 q3 q4 co bY;clear bY co q4 q3 q2 q1;clear dy;go_wp2_with (fail);go_loopw [4,10] (λs i wr=>∃k:Nat,i= .int .i64 (k:Int)/\k<=nt/\Hid (Below F.heap.size F wr)/\Hid (RowE (ratK .i64) 63 F.heap.size wr s ((R.take k).map λr=> -r))) (λ_ i _=>nt - (intOf i).toNat)
     case atStart=>exact⟨0,rfl,Nat.zero_le _,Lib.hid (Below.refl _ _),Lib.hid (RowE.nil _ _ _ _)⟩
     case round=>
      obtain⟨k,rfl,hk,ak,H⟩:=hrel
      by_cases cD:k<nt
      ·have aU:k<R.length:=by rw[ao.out];exact cD
       obtain⟨g,c',z,-,aT,-,-,cs,bv,hc⟩:=(cx.out.le ak.out).at aU;rw[ao.out]at z;injection z with z e2 e3;subst z e3;clear e2;have ah:R.take (k+1)=R.take k++[R[k]]:=by rw[List.take_succ_eq_append_getElem aU]
       generalize R[k]=a at bv ah;have j:=H.out;obtain⟨s5,A5,n5,c5,B5,m5,d5,rfl,ad⟩:=bv;obtain⟨fN,gs,cm⟩:=j.slice;have a3:((R.take k).map λr=> -r).length =k:=by rw[List.length_map,List.length_take,ao.out];omega
       rw[a3]at cm;subst cm;have ap:((R.take (k+1)).map λr=> -r)=((R.take k).map λr=> -r)++[-a]:=by rw[ah,List.map_append];rfl
       have x0:wr.cell? ⟨g,k*3,none⟩=some (.bool s5):=hc 0 _ rfl;have x1:wr.cell? ⟨g,k*3+1,none⟩=some (.slice A5 n5 c5):=hc 1 _ rfl;have x2:wr.cell? ⟨g,k*3+2,none⟩=some (.slice B5 m5 d5):=hc 2 _ rfl;have j7:(k:Int)<(nt:Int):=by omega
       have j8:(0:Int)<=(k:Int):=by omega
       have ca:=bZ.out;have fn:k<=66:=by omega
       have km:=qC1 (λ_=>True) a _ wr ad;have cc:Below F.heap.size F wr:=ak.out;have⟨d2,bR,bH,dU,x,aj,bp,a8⟩:=hyd8 ak H hc ah j ad a3 ap;have⟨bV,bf⟩:=hyd2 km cc;clear cc km ap a3 ad j ah hc H ak;go_wp2_with (fail);go_at_call 56;refine bV.out.mono ?_;rintro e dr ⟨gz,rfl,az,bK⟩;obtain⟨s7,A7,n7,c7,B7,m7,d7,rfl⟩:=bK.frm;obtain⟨ds,dz,aE,cY⟩:=enew dr (.cells #[.bool s7,.slice A7 n7 c7,.slice B7 m7 d7] 63);have ae:=az.trans aE;have T:=x.out.le ae;have br:=bK.le aE;have ar:Below F.heap.size F ds:=bf.out.trans (ae.mono bf.out.size);have ea:=ar.size;have am:=qCT cY;clear x0 x1 x2;have⟨et,fo,eE,f9,eu,ag,bL,be⟩:=hyd8 az bK aE cY ae T br ar;have a5:=hyd1 am;clear am ar br T ae cY aE bK az;go_wp2_with (first | (at_builtin;go_must (refine RowE.append ag.out rfl _ _ 51 rfl 56 (.agg #[.bool false,.slice none 0 0,.slice none 0 0]) (by decide) Try.underlying51 aH.out rfl qD1 rfl dr.heap.size rfl (cs:=[.bool s7,.slice A7 n7 c7,.slice B7 m7 d7]) ⟨_,_,_,_,_,_,_,rfl,bL.out⟩ a5.out (by rw[bp.out];omega) ea ?_)));intro v7 W7 q1 q2 q3 q4 q5;clear dz;have r3:Below F.heap.size F W7:=(show Below F.heap.size F ds from be.out).trans q2;rw[<-List.map_take,<-a8.out]at q1;have⟨b9,eb,ec,ed,eT,df⟩:=hyd6 q1 q2 q3 q4 q5 r3
       clear r3 q5 q4 q3 q2 q1;go_wp2;go_roundw
       case rel=>exact⟨k+1,by go_num,by omega,df,b9⟩
       case measure=>simp[intOf];omega
      ·obtain rfl:nt=k:=by omega
       have j7:¬(nt:Int)<(nt:Int):=by omega
       have j:=H.out;have cF:((R.take nt).map λr=> -r)=negQ R:=by unfold negQ;rw[<-ao.out,List.take_length]
       rw[cF]at j;have aA:=j.base (base':=0) (Nat.zero_le _);have dX:Below w.heap.size w wr:=(show Below w.heap.size w F from b6.out).trans (ak.out.mono b6.out.size);have ci:=b9.out.le ak.out;have bs:=dM.out;rw[dx.out]at bs;obtain⟨A4,c4,q4⟩:=aA.slice;rw[qDj,ao.out]at q4;have ca:=bZ.out;subst q4;have⟨d2,bR,x,fp,bP,dY,cN,cI⟩:=hyd8 ak H j cF aA dX ci bs;clear bs ci dX aA cF j H ak;go_wp2;go_roundw
       case rel=>exact⟨qAJ q,negQ R,L++[qAJ q],f2,dY,bP,cN,cI⟩
       case measure=>exact ca
end Go.Proofs.Ytcoajjdhkhgfdaa
