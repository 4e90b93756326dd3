/- Roots, the reference: RootsIn. (The region between --@ARM and --@END is printed by gen_rootr.py.) -/
import Derived.Test.YtcoajjdhkhgfdaaPk51
namespace Go.Proofs.Ytcoajjdhkhgfdaa
set_option maxRecDepth 100000
set_option maxHeartbeats 2000000
open Go.RowKit Go.Shelf
set_option linter.unusedVariables false
set_option linter.unusedSimpArgs false
noncomputable def qB2 (p:List FracA) (x y:FracA):Except Int Int:=
 match qA7 p with
 | .error z=> .error z
 | .ok l=>match x.rat? with
  | none=> .error 10
  | some a=>match y.rat? with
   | none=> .error 10
   | some b=>if l.length=0 then .error 6 else if 0<rsgn (a - b)then .error 2 else if l.length=1 then .ok 0 else .ok (atQ a (qBS (qAW l)) - atQ b (qBS (qAW l)))
theorem qI3 {p:List FracA} {x y:FracA} {l:List Rat} (h:qA7 p= .ok l) (hb:(okAF x&&okAF y)=false):qB2 p x y= .error 10:=by
 unfold qB2;rw[h];dsimp only;unfold okAF at hb
 cases hx:x.rat? with
 | none=>rfl
 | some a=>
  cases hy:y.rat? with
  | none=>rfl
  | some b=>rw[hx,hy]at hb;cases hb
theorem qI4 (p:List FracA) (x y:FracA) (vp vx vy:Value) (w:World) (hp:SeqE inK w vp p) (hx:IsFracA (λ_=>True) w vx x) (hy:IsFracA (λ_=>True) w vy y) (hroom:qGF p) (hsx:∀a,x.rat?=some a->Rsz a 2) (hsy:∀a,y.rat?=some a->Rsz a 2):
  Calls Try.prog 9 #[vp,vx,vy] w λe w'=>e= .returned (.tuple #[.int .i64 (valI (qB2 p x y)),.int .i64 (qAo (qB2 p x y))])/\Le w w':=by
 obtain⟨res,ag⟩:∃r,qB2 p x y=r:=⟨_,rfl⟩;rw[ag];have bC:=hx;have bE:=hy;obtain⟨A,c,B,d,rfl,p1,p2⟩:=hx;obtain⟨A2,c2,B2,d2,rfl,q1,q2⟩:=hy;obtain⟨W0,bY,bB,aU,k0,k1⟩:=qFU w (.cells #[.bool x.sn,.slice A x.gn.length c,.bool x.sd,.slice B x.gd.length d] 27) (.cells #[.bool y.sn,.slice A2 y.gn.length c2,.bool y.sd,.slice B2 y.gd.length d2] 27);obtain⟨b1,cc⟩:∃b,w.heap.size=b:=⟨_,rfl⟩;rw[cc]at k0 k1;have kc:=qF6 vp p W0 (hp.le aU);have⟨dv,bD,bF,dy,dz,d0,d1,b3⟩:=hyd8 hp bC bE p1 p2 q1 q2 aU;have⟨bG,bI,aq,bc⟩:=hyd4 k0 k1 kc ag;clear ag kc k1 k0 aU q2 q1 p2 p1 bE bC hp;have⟨ay,b9,bA,cV⟩:=hyd4 hroom hsx hsy bB;clear bB hsy hsx hroom;go_enter Try.func9,Try.ntmps9;go_wp2_with (fail);clear bY;go_at_call 20;refine aq.out.mono ?_;rintro e W1 ⟨o,v3,c3,rfl,hc⟩;have j:Le w W1:=(show Le w W0 from b3.out).trans o;have ao:=(o.block _ (gsl bG.out)).trans bG.out;have ap:=(o.block _ (gsl bI.out)).trans bI.out;have D:=bc.out
 cases hl:qA7 p with
 | error z=>
  rw[hl]at hc;obtain⟨rfl,rfl⟩:=hc;have f:qB2 p x y= .error c3:=by unfold qB2;rw[hl]
  rw[f]at D;have hz:c3≠0:=by rcases qG2 hl with h|h<;>omega
  have dx:(c3==0)=false:=by simpa using hz
  subst D;have⟨aV,C,aw,J,bH,bJ⟩:=hyd6 o j hl f ao ap;clear ap ao f hl j o;go_wp2;exact bodyPost_ret (v:= .tuple #[.int .i64 (valI (.error c3)),.int .i64 (qAo (.error c3))]) (by simp[results,Try.results9,go_sem,valI,qAo]) rfl ⟨rfl,C.out⟩
 | ok l=>
  rw[hl]at hc;obtain⟨M,rfl⟩:=hc;obtain⟨cy,bK,-⟩:=qBA hl;obtain⟨z0,z1,z2,z3⟩:=qAh ao;obtain⟨y0,S,y2,y3⟩:=qAh ap;have r1:=qKJ (λ_=>True) (λ_=>True) x y _ _ W1 (Up.any _) (bD.out.le j) (bF.out.le j);obtain⟨LA,lc,rfl⟩:=M.slice;obtain⟨n,hn⟩:∃n,l.length=n:=⟨_,rfl⟩;rw[hn]at M cy ⊢;have⟨aV,C,aw,bd,cY,bH,bJ,bL⟩:=hyd8 o j hl M bK ao ap r1;have⟨aX,L⟩:=hyd2 hn D;clear D hn r1 ap ao bK M hl j o;go_wp2_with (fail);go_at_call 27;refine bL.out.mono ?_;rintro e W2 ⟨aa,v1,v2,rfl,⟨s1,Q1,n1,T,Q2,n2,e2,rfl⟩,⟨s2,Q3,n3,e3,Q4,n4,e4,rfl⟩,b5,b7⟩;obtain⟨bb,aN⟩:∃bb,(okAF x&&okAF y)=bb:=⟨_,rfl⟩;rw[aN];clear z0 z1 z2 z3 y0 S y2 y3 bL;obtain⟨W3,bZ,aE,ab,kx,ky⟩:=qFU W2 (.cells #[.bool s1,.slice Q1 n1 T,.slice Q2 n2 e2] 63) (.cells #[.bool s2,.slice Q3 n3 e3,.slice Q4 n4 e4] 63);obtain⟨bx,cd⟩:∃b,W2.heap.size=b:=⟨_,rfl⟩;rw[cd]at kx ky;obtain⟨dn,N⟩:∃b,bx+1=b:=⟨_,rfl⟩;have H:=aa.trans ab;have a5:Le w W3:=C.out.trans H;have ah:=bd.out.le H;have⟨cg,ac,cf,t,cu,cx,b6,b8⟩:=hyd8 aa ab H a5 kx ky b5 b7;have⟨a6,az,cm⟩:=hyd3 aN ah aE;clear aE ah aN b7 b5 ky kx a5 H ab aa
  cases bb with
  | false=>
   have f:=L.out;rw[qI3 aw.out a6.out]at f;subst f
   have a7:=hyd1 N
   clear N
   go_wp2;exact bodyPost_ret (v:= .tuple #[.int .i64 (valI (.error 10)),.int .i64 (qAo (.error 10))]) (by simp[results,Try.results9,go_sem,valI,qAo]) rfl ⟨rfl,t.out⟩
  | true=>
   obtain⟨a,b,ha,hb⟩:=qLG a6.out;have ae:=(b6.out a ha).le ac.out;have af:=(b8.out b hb).le ac.out;have ai:=b9.out a ha;have al:=bA.out b hb;have f:=L.out
   have m:qB2 p x y=if l.length=0 then .error 6 else if 0<rsgn (a - b)then .error 2 else if l.length=1 then .ok 0 else .ok (atQ a (qBS (qAW l)) - atQ b (qBS (qAW l))):=by
    unfold qB2;rw[aw.out,ha,hb]
   rw[m,aX.out]at f
   by_cases h0:n=0
   ·rw[if_pos h0]at f;subst f h0
    have⟨ca,cb,aA,aC,aj,am,av,a7⟩:=hyd8 ha hb ae af ai al m N
    clear N m al ai af ae hb ha;go_wp2;exact bodyPost_ret (v:= .tuple #[.int .i64 (valI (.error 6)),.int .i64 (qAo (.error 6))]) (by simp[results,Try.results9,go_sem,valI,qAo]) rfl ⟨rfl,t.out⟩
   ·rw[if_neg h0]at f;have dr:((n:Int)==0)=false:=by simpa using h0
    have ds:¬(n:Int)=0:=by omega
    have ro:=qJZ (λ_=>True) a b _ _ W3 (Up.any _) ae af (ai.up (by decide)) (al.up (by decide));obtain⟨cv,aR⟩:∃c,rsgn (a - b)=c:=⟨_,rfl⟩;rw[aR]at ro f;have be:=cu.out;have bf:=cx.out;obtain⟨x0,x1,x2,-⟩:=qAB be;obtain⟨y0,S,y2,-⟩:=qAB bf;have⟨ca,cb,aA,aC,aj,am,av,c0⟩:=hyd8 ha hb ae af ai al m ro;have⟨cQ,a7,aF,aG⟩:=hyd4 aR N be bf;clear bf be N aR ro m al ai af ae hb ha;have J:=hyd1 f;clear f;go_wp2_with (fail);clear bZ;go_at_call 28;refine c0.out.mono ?_;rintro e W4 ⟨rfl,k⟩;have O:=t.out.trans k;have g:=J.out;clear x0 x1 x2 y0 S y2
    by_cases bu:0<cv
    ·rw[if_pos bu]at g;subst g;have⟨E,I⟩:=hyd2 k O;clear O k;go_wp2;exact bodyPost_ret (v:= .tuple #[.int .i64 (valI (.error 2)),.int .i64 (qAo (.error 2))]) (by simp[results,Try.results9,go_sem,valI,qAo]) rfl ⟨rfl,I.out⟩
    ·rw[if_neg bu]at g
     by_cases aT:n=1
     ·rw[if_pos aT]at g;subst g aT;have⟨E,I⟩:=hyd2 k O;clear O k;go_wp2;exact bodyPost_ret (v:= .tuple #[.int .i64 (valI (.ok 0)),.int .i64 (qAo (.ok 0))]) (by simp[results,Try.results9,go_sem,valI,qAo]) rfl ⟨rfl,I.out⟩
     ·rw[if_neg aT]at g;have dt:((n:Int)==1)=false:=beq_eq_false_iff_ne.2 (by omega);have du:¬(n:Int)=1:=by omega
      have hr:=ay.out l aw.out (by rw[aX.out];omega);obtain⟨CQ,aI⟩:∃Q,qBS (qAW l)=Q:=⟨_,rfl⟩;have aQ:=hr.cl;have U:=hr.atr a aj.out;have V:=hr.atr b am.out;rw[aI]at g aQ U V;obtain⟨cA,aO⟩:∃c,atQ a CQ=c:=⟨_,rfl⟩;obtain⟨cB,aP⟩:∃c,atQ b CQ=c:=⟨_,rfl⟩;have h1:=qKj a CQ;have h2:=qKj b CQ;rw[aO]at g h1;rw[aP]at g h2;obtain⟨df,aS⟩:∃d,cA - cB=d:=⟨_,rfl⟩;rw[aS]at g;subst g;have ce: -100000<=df/\df<=100000:=by omega
      obtain⟨cR,cS⟩:=ce;have ak:=aj.out.up (show 2<=40 by decide);have an:=am.out.up (show 2<=40 by decide);have q:=(az.out.le k).base (base':=0) (Nat.zero_le _);have ax:=aX.out;rw[<-ax]at q;have kg:=qFb _ l W4 q hr (by omega);rw[ax]at q kg;clear h1 h2;have⟨E,I,ck,bp,a8,aK,aL,bs⟩:=hyd8 k O hr aI aQ U V aO;have⟨bt,bv,a0,a1⟩:=hyd4 aP aS ak an;clear an ak aS aP aO V U aQ aI hr O k;have⟨bQ,cs,cT⟩:=hyd3 q kg ax;clear ax kg q;go_wp2_with (fail);go_at_call 30;refine cs.out.mono ?_;rintro e W5 ⟨v5,rfl,a9,aY⟩;have k6:=qGc v5 (qAW l) W5 (aY.base (Nat.zero_le _)) ck.out.ch;rw[bp.out]at k6;have⟨aW,cU,cq⟩:=hyd3 a9 aY k6;clear k6 aY a9;go_wp2_with (fail);go_at_call 29;refine cq.out.mono ?_;rintro e W6 ⟨v6,rfl,ad,G⟩;have i:Le W3 W6:=E.out.trans ((show Le W4 W5 from aW.out).trans ad);have bw:Le w W6:=(show Le w W3 from t.out).trans i;have a2:=(i.block _ (gsl aF.out)).trans aF.out;have a3:=(i.block _ (gsl aG.out)).trans aG.out;obtain⟨x0,x1,x2,-⟩:=qAB a2;obtain⟨y0,S,y2,-⟩:=qAB a3;have X:=gsl a2;have Y:=gsl a3;have aB:=aA.out.le i;have aD:=aC.out.le i;have G:=G.base0;have⟨ci,Z,bP,bz,cW,cX,aZ,ba⟩:=hyd8 ad G i bw a2 a3 aB aD;have⟨c1,c4,c5,c6⟩:=hyd4 x0 x1 x2 y0
      clear y0 x2 x1 x0 aD aB a3 a2 bw i G ad;have⟨ar,c7⟩:=hyd2 S y2;clear y2 S;go_wp2_with (fail);refine qAV (R:=leRel) 7 [some 44,some 45,some 46,some 47,some 48,some 49,some 50,some 6,some 7] [[],[],[0,1],[],[],[3,4],[2,5],[6],[]]
       [.eq (v6),.eq (.agg #[.bool s1,.slice Q1 n1 T,.slice Q2 n2 e2]),.eq (.int .i64 cA),.eq (v6),.eq (.agg #[.bool s2,.slice Q3 n3 e3,.slice Q4 n4 e4]),.eq (.int .i64 cB),.eq (.int .i64 df)] (λ_ _=>False) (by kernel_rfl) (by kernel_rfl) (by kernel_rfl) (by kernel_rfl) (by kernel_rfl) ?_ (λ_ _ _ _ h=>h.elim) ?_
      ·simp only[List.take_succ_cons,List.take_zero];refine sMc rfl ?_ (sMc rfl ?_ (sMc rfl ?_ (sMc rfl ?_ (sMc rfl ?_ (sMc rfl ?_ (sMc rfl ?_ (qA2)))))))
       ·intro xv W s P Q hK hP;simp only[fA]at hK ⊢;go_wp2;exact hK _ _ lrR rfl
       ·intro xv W s P Q hK hP;have t0:=(Below.cell s (p:=⟨bx,0,none⟩) X).trans c1.out;have t1:=(Below.cell s (p:=⟨bx,1,none⟩) X).trans c4.out;have t2:=(Below.cell s (p:=⟨bx,2,none⟩) X).trans c5.out;simp only[fA]at hK ⊢;go_wp2;exact hK _ _ lrR rfl
       ·intro xv W s P Q hK hP;obtain⟨e0,T,-⟩:=P;change _=_ at e0 T;have F:=Z.out.le s;simp only[fA,e0,T]at hK ⊢;have kc:=qJD v6 _ CQ a W F (aZ.out.le s) a8.out aK.out a0.out;rw[bs.out]at kc;have⟨aq,b4⟩:=hyd2 kc F;clear F kc;go_wp2_with (fail);go_at_call 31;refine aq.out.mono ?_;rintro e w' ⟨rfl,S⟩;have ar:=hyd1 S;clear S;go_wp2;exact hK _ _ ar.out rfl
       ·intro xv W s P Q hK hP;simp only[fA]at hK ⊢;go_wp2;exact hK _ _ lrR rfl
       ·intro xv W s P Q hK hP;have t0:=(Below.cell s (p:=⟨(bx+1),0,none⟩) Y).trans c6.out;have t1:=(Below.cell s (p:=⟨(bx+1),1,none⟩) Y).trans ar.out;have t2:=(Below.cell s (p:=⟨(bx+1),2,none⟩) Y).trans c7.out;simp only[fA]at hK ⊢;go_wp2;exact hK _ _ lrR rfl
       ·intro xv W s P Q hK hP;obtain⟨e0,T,-⟩:=P;change _=_ at e0 T;have F:=Z.out.le s;simp only[fA,e0,T]at hK ⊢;have kc:=qJD v6 _ CQ b W F (ba.out.le s) a8.out aL.out a1.out;rw[bt.out]at kc;have⟨aq,b4⟩:=hyd2 kc F;clear F kc;go_wp2_with (fail);go_at_call 31;refine aq.out.mono ?_;rintro e w' ⟨rfl,S⟩;have ar:=hyd1 S;clear S;go_wp2;exact hK _ _ ar.out rfl
       ·intro xv W s P Q hK hP;obtain⟨e0,T,-⟩:=P;change _=_ at e0 T;have jj:=bv.out;simp only[fA,e0,T]at hK ⊢;go_wp2;exact hK _ _ lrR (by show Value.int _ _=Value.int _ _;congr 1)
      intro xv W s P Q' bq _;have e6:=P 6 (by decide);change _=_ at e6;simp only[List.drop_succ_cons,List.drop_zero];rw[show List.range 7=[0,1,2,3,4,5,6]from rfl];simp only[fA,e6];clear P;clear e6;have br:=hyd1 s;clear s;go_wp2;refine bq _ _ ?_;clear bq;have s:=br.out;clear br;have b0:Le w W:=(show Le w W6 from bz.out).trans s;have b2:=hyd1 b0;clear b0;go_wp2;exact bodyPost_ret (v:= .tuple #[.int .i64 (valI (.ok df)),.int .i64 (qAo (.ok df))]) (by simp[results,Try.results9,go_sem,valI,qAo]) rfl ⟨rfl,b2.out⟩
end Go.Proofs.Ytcoajjdhkhgfdaa
