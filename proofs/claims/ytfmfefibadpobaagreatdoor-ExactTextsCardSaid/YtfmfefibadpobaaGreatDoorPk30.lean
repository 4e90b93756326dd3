/- Texts, the reference: Parse, walked. -/
import Derived.Test.YtfmfefibadpobaaGreatDoorPk29
namespace Go.Proofs.YtfmfefibadpobaaGreatDoor
set_option maxRecDepth 100000
set_option maxHeartbeats 2000000
open Go.RowKit Go.Shelf
set_option linter.unusedVariables false
set_option linter.unusedSimpArgs false
theorem qDl {l:List UInt8} (h:l.head?≠some 45):qBZ l=match numE (cutS l).1,numE (if (cutS l).2.2=true then(cutS l).2.1 else[49])with
  | some n,some d=>if d=0 then none else some (mkR false n d)
  | _,_=>none:=by
 unfold qBZ;rw[if_neg h,decide_eq_false h]
 rfl
theorem qFV {l:List UInt8} (h:l.head?=some 45):qBZ l=match numE (cutS (l.drop 1)).1,numE (if (cutS (l.drop 1)).2.2=true then(cutS (l.drop 1)).2.1 else[49])with
  | some n,some d=>if d=0 then none else some (mkR true n d)
  | _,_=>none:=by
 unfold qBZ;rw[if_pos h,decide_eq_true h,List.drop_one]
 rfl
theorem qA3 {l:List UInt8} (h1:l.length<=800) (h:qBZ l=none):qAE l= .error 13:=by unfold qAE;rw[if_neg (by omega),h]
theorem qCR {l:List UInt8} {r:Rat} (h1:l.length<=800) (h:qBZ l=some r) (hs:qAH r≠l):qAE l= .error 13:=by unfold qAE;rw[if_neg (by omega),h];show(if qAH r=l then outR r else .error 13)=_;rw[if_neg hs]
theorem qCS {l:List UInt8} {r:Rat} (h1:l.length<=800) (h:qBZ l=some r) (hs:qAH r=l):qAE l=outR r:=by unfold qAE;rw[if_neg (by omega),h];show(if qAH r=l then outR r else .error 13)=_;rw[if_pos hs]
theorem qEO {l:List UInt8} (h1:800<l.length):qAE l= .error 4:=by unfold qAE;rw[if_pos h1]
theorem qAZ {W:World} {X:Nat} {t:TypeId} (h:W.heap[X]? =some (Obj.cells #[.bool false,.slice none 0 0,.bool false,.slice none 0 0] t)):(W.cell? ⟨X,0,none⟩=some (.bool false)/\W.cell? ⟨X,1,none⟩=some (.slice none 0 0)/\W.cell? ⟨X,2,none⟩=some (.bool false)/\W.cell? ⟨X,3,none⟩=some (.slice none 0 0))/\W.frozen? ⟨X,0,none⟩=false/\W.frozen? ⟨X,1,none⟩=false/\W.frozen? ⟨X,2,none⟩=false/\W.frozen? ⟨X,3,none⟩=false:=
 ⟨qAC h,fz0 h 0,fz0 h 1,fz0 h 2,fz0 h 3⟩
theorem qFn (P:Program) (t:TypeId) (l:List UInt8) (h:P.underlying t=some .string) (hk:0<l.length) (W:World):(Instr.index t (.string (baL l)) (.int .i64 0)).run P W= .ok (.int .u8 (l[0].toNat :Int)) W:=qC2 P t l 0 h hk W
theorem qHa {l:List UInt8} (h:0<l.length) (h2:l.head?≠some 45):∃b:Nat,l[0].toNat =b/\b≠45:=by
 refine⟨_,rfl,λe=>h2 ?_⟩;rw[List.head?_eq_getElem?,List.getElem?_eq_getElem h]
 congr 1
 exact UInt8.toNat_inj.1 e
theorem qHK {l:List UInt8} (h2:l.head?=some 45):∃h:0<l.length,l[0].toNat =45:=by
 cases l with
 | nil=>cases h2
 | cons a l=>
  injection h2 with h2;subst h2;exact⟨Nat.zero_lt_succ _,rfl⟩
theorem qEP (L:Nat->Prop) (l:List UInt8) (w:World) (hL:Up w L) (hl:800<l.length) (hl2:l.length<=1000000):
  Calls Tryz.prog 8 #[strV l] w (qB5 L (qAE l) w):=by
 have i:=qEO hl;rw[qA5];have d:=qAP l;obtain⟨N,f⟩:∃N,l.length=N:=⟨_,rfl⟩;rw[f]at d;have n:800<(N:Int):=by omega
 have b:=qAA w (.cells #[.bool false,.slice none 0 0,.bool false,.slice none 0 0] 26);generalize baL l=s at d ⊢;have⟨g,j,c,k,m,h⟩:=hyd6 i hL b f hl hl2;clear hl2 hl f b hL i;go_enter Tryz.func8,Tryz.ntmps8;go_wp2;exact bodyPost_ret (v:= .tuple #[qAN,.int .i64 4]) (by simp[results,Tryz.results8,go_sem,qAN]) rfl ⟨c.out,_,_,rfl,by rw[g.out];exact⟨rfl,rfl⟩⟩
theorem qFW (L:Nat->Prop) (l:List UInt8) (w:World) (hL:Up w L) (hl:l.length<=800) (hv:l=[]):
  Calls Tryz.prog 8 #[strV l] w (qB5 L (qAE l) w):=by
 have c:=qDl (l:=l) (by rw[hv];nofun);obtain⟨R,aT⟩:∃R,qBZ l=R:=⟨_,rfl⟩;rw[aT]at c;have bZ:=qAP l;obtain⟨N,hN⟩:∃N,l.length=N:=⟨_,rfl⟩;rw[hN]at bZ hl;have j1:¬800<(N:Int):=by omega
 have cs:=True.intro;have j2:¬0<(N:Int):=(by rw[hv]at hN;have:N=0:=hN.symm;omega);obtain⟨t,ht⟩:∃t,l=t:=⟨_,rfl⟩;rw[ht]at c;have b5:t.length<=800:=by rw[<-ht];first |omega| (rw[List.length_drop];omega)
 have bq:Value.string ⟨#[49]⟩= .string (baL [49]):=rfl;have b3:=qAA w (.cells #[.bool false,.slice none 0 0,.bool false,.slice none 0 0] 26);have M:=heap_alloc_new w (.cells #[.bool false,.slice none 0 0,.bool false,.slice none 0 0] 26);rw[qA5];have⟨aS,aK,af,V,q,b6,X,cp⟩:=hyd8 hL b3 hN aT c b5 M bq;have⟨b4,da⟩:=hyd2 ht hv;clear hv ht bq M b5 c aT hN b3 hL;go_enter Tryz.func8,Tryz.ntmps8;go_wp2_with (fail);obtain⟨W0,bO⟩:∃W0,w.alloc (.cells #[.bool false,.slice none 0 0,.bool false,.slice none 0 0] 26)=W0:=⟨_,rfl⟩;rw[bO]at aK X ⊢;go_loopw [5,6,7] (λa b i wr=>∃(k:Nat) (f g:List UInt8),i= .int .i64 (k:Int)/\a= .string (baL f)/\b= .string (baL g)/\Hid (PSt t k f g)/\Hid (Le W0 wr)) (λ_ _ i _=>802 - (intOf i).toNat)
 case atStart=>exact⟨0,t,[49],rfl,by first | (rw[<-b4.out];done)| (rw[<-b4.out];exact congrArg Value.string (by rw[<-af.out];exact qCQ l 1 (by have:=af.out;omega))),rfl,Lib.hid (PSt.start t),Lib.hid (Le.refl _)⟩
 case round=>
  obtain⟨k,f,g,rfl,rfl,rfl,O,hb⟩:=hrel;obtain⟨a5,ao,a6⟩:=O.out.len b6.out (by decide);have bR:=qAP f;obtain⟨F,hF⟩:∃F,f.length=F:=⟨_,rfl⟩;rw[hF]at bR
  by_cases cX:k<F
  ·have a7:k<f.length:=by omega
   have k1:(k:Int)<(F:Int):=by omega
   have k2:(0:Int)<=(k:Int):=by omega
   have bS:=qC2 Tryz.prog 9 f k Tryz.underlying9 a7;obtain⟨b,M⟩:∃b,f[k]=b:=⟨_,rfl⟩;obtain⟨B,ae⟩:∃B,b.toNat=B:=⟨_,rfl⟩;simp only[M,ae]at bS
   by_cases aP:B=47
   ·have ad:=O.out.hit a7 (by rw[M,b47,ae];exact aP);have cZ:=qC6 Tryz.prog 9 f k Tryz.underlying9 (by omega);have bY:=qBr Tryz.prog 9 f (k+1) Tryz.underlying9 a7;have ba:((k+1:Nat):Int)=(k:Int)+1:=by omega
    rw[ba]at bY;have k3:(B:Int)=47:=by omega
    have k4:k+1<=801:=by omega
    subst aP;have⟨aO,a4,bw,bz,b0,aR,X,br⟩:=hyd8 O hb a5 ao a6 hF M ae;have⟨aj,ct⟩:=hyd2 ad ba;clear ba ad ae M hF a6 ao a5 hb O;go_wp2;go_roundw
    case rel=>exact⟨k+1,_,_,by go_num,rfl,rfl,aj,a4.out⟩
    case measure=>(simp[intOf];try omega)
   ·have ad:=O.out.miss a7 (by rw[Ne,M,b47,ae];exact aP);have k3:¬(B:Int)=47:=by omega
    have k5:((B:Int)==47)=false:=beq_eq_false_iff_ne.2 k3;have k4:k+1<=801:=by omega
    have⟨aO,a4,bw,bz,b0,aR,X,br⟩:=hyd8 O hb a5 ao a6 hF M ae;have aj:=hyd1 ad;clear ad ae M hF a6 ao a5 hb O;go_wp2;go_roundw
    case rel=>exact⟨k+1,_,_,by go_num,rfl,rfl,aj,a4.out⟩
    case measure=>(simp[intOf];try omega)
  ·have k1:¬(k:Int)<(F:Int):=by omega
   obtain⟨bv,bx⟩:=O.out.exit (by omega);have c:=q.out;rw[<-bv,<-bx]at c;clear q bv bx;have ak:Le w wr:=aK.out.trans hb.out;have am:=(hb.out.block _ (gsl X.out)).trans X.out;have q1:=qBM L f wr (aS.out.le ak) (by omega);rw[qA5]at q1;have⟨aO,a4,aR,q,ce⟩:=hyd5 O hb hF c q1;clear q1 c hF hb O;go_wp2_with (fail);go_at_call 26;refine ce.out.mono ?_;rintro e W1 ⟨v1,rfl,ap,ai⟩;have q2:=qBM L g W1 (aS.out.le (ak.trans ap)) (by omega);rw[qA5]at q2;obtain⟨o1,aB⟩:∃o,numE f=o:=⟨_,rfl⟩;obtain⟨o2,aC⟩:∃o,numE g=o:=⟨_,rfl⟩;have c:=q.out;have D:∀n,o1=some n->(dg n).length <=800:=λn h=>Nat.le_trans (qB6 (aB.trans h)) (by have:=aR.out;omega);have E:∀n,o2=some n->(dg n).length <=800:=λn h=>Nat.le_trans (qB6 (aC.trans h)) ao;obtain⟨b1,aX⟩:∃b,o1.isSome=b:=⟨_,rfl⟩;obtain⟨b2,aY⟩:∃b,o2.isSome=b:=⟨_,rfl⟩;rw[aB]at ai c ⊢;rw[aC]at c q2;rw[aX];rw[aY]at q2;clear q;obtain⟨A1,c1,e1⟩:=ai.slice;subst e1;have⟨q,Q,S,cz,c0,cf,aM,bd⟩:=hyd8 c D E aB aC q2 ai ak;have⟨aq,aG,aH⟩:=hyd3 ap aX aY;clear aY aX ap ak ai q2 aC aB E D c;go_wp2_with (fail);go_at_call 26;refine cf.out.mono ?_;rintro e W2 ⟨v2,rfl,G,I⟩;have y:Le w W2:=bd.out.trans (aq.out.trans G);have m:=((aq.out.trans G).block _ (gsl am)).trans am
   clear am;obtain⟨A2,c2,e2⟩:=I.slice;subst e2;have c:=q.out;have D:=Q.out;have E:=S.out;clear q Q S
   cases b1
   ·have e1:o1=none:=Option.not_isSome_iff_eq_none.1 (by rw[aG.out];decide);subst e1;obtain⟨⟨f0,f1,f2,f3⟩,g0,g1,g2,g3⟩:=qAZ m;have p:=λu0 u1 u2 u3=>qAQ (u0:=u0) (u1:=u1) (u2:=u2) (u3:=u3) y (Nat.le_refl _);have A:=λu0 u1 u2 u3=>qAC (qAJ (u0:=u0) (u1:=u1) (u2:=u2) (u3:=u3) m);have j:qAE l= .error 13:=qA3 (by rw[af.out];exact hl) (V.out.trans c);have⟨x,C,z,J,U,av,q,Q⟩:=hyd8 p A j m y I c D;have S:=hyd1 E;clear E D c I y m j A p;go_wp2;obtain⟨d0,d1,d2,d3⟩:=C.out (.bool false) (.slice none 0 0) (.bool false) (.slice none 0 0);exact bodyPost_ret (v:= .tuple #[qAN,.int .i64 13]) (by simp[results,Tryz.results8,go_sem,qAN,d0,d1,d2,d3]) rfl ⟨x.out _ _ _ _,_,_,rfl,by rw[z.out];exact⟨rfl,rfl⟩⟩
   cases b2
   ·have e2:o2=none:=Option.not_isSome_iff_eq_none.1 (by rw[aH.out];decide);subst e2;have c:R=none:=by rw[c];cases o1<;>rfl
    obtain⟨⟨f0,f1,f2,f3⟩,g0,g1,g2,g3⟩:=qAZ m;have p:=λu0 u1 u2 u3=>qAQ (u0:=u0) (u1:=u1) (u2:=u2) (u3:=u3) y (Nat.le_refl _);have A:=λu0 u1 u2 u3=>qAC (qAJ (u0:=u0) (u1:=u1) (u2:=u2) (u3:=u3) m);have j:qAE l= .error 13:=qA3 (by rw[af.out];exact hl) (V.out.trans c);have⟨x,C,z,J,U,av,q,Q⟩:=hyd8 p A j m y I c D;have S:=hyd1 E;clear E D c I y m j A p;go_wp2;obtain⟨d0,d1,d2,d3⟩:=C.out (.bool false) (.slice none 0 0) (.bool false) (.slice none 0 0);exact bodyPost_ret (v:= .tuple #[qAN,.int .i64 13]) (by simp[results,Tryz.results8,go_sem,qAN,d0,d1,d2,d3]) rfl ⟨x.out _ _ _ _,_,_,rfl,by rw[z.out];exact⟨rfl,rfl⟩⟩
   obtain⟨n,e1⟩:=Option.isSome_iff_exists.1 aG.out;obtain⟨d,e2⟩:=Option.isSome_iff_exists.1 aH.out;subst e1 e2;have c:R=if d=0 then none else some (mkR false n d):=c;have D:=D n rfl;have E:=E d rfl;have ai:NumL L .i64 W1 (.slice A1 (dg n).length c1) n:=aM.out;have I:NumL L .i64 W2 (.slice A2 (dg d).length c2) d:=I;have ac:=ai.le G;have ar:=G;clear aM ai
   by_cases Y:d=0
   ·rw[if_pos Y]at c;subst Y;have bb:(dg 0).length =0:=by rw[qAI];rfl
    rw[show(dg ((some 0).getD 0)).length =0 from bb];obtain⟨⟨f0,f1,f2,f3⟩,g0,g1,g2,g3⟩:=qAZ m;have p:=λu0 u1 u2 u3=>qAQ (u0:=u0) (u1:=u1) (u2:=u2) (u3:=u3) y (Nat.le_refl _);have A:=λu0 u1 u2 u3=>qAC (qAJ (u0:=u0) (u1:=u1) (u2:=u2) (u3:=u3) m);have j:qAE l= .error 13:=qA3 (by rw[af.out];exact hl) (V.out.trans c);have⟨x,C,z,J,U,av,q,Q⟩:=hyd8 p A j m y I c D;have⟨S,bi,be,bI,cu⟩:=hyd5 E ac G ar bb;clear bb ar G ac E D c I y m j A p;go_wp2;obtain⟨d0,d1,d2,d3⟩:=C.out (.bool false) (.slice none 0 0) (.bool false) (.slice none 0 0);exact bodyPost_ret (v:= .tuple #[qAN,.int .i64 13]) (by simp[results,Tryz.results8,go_sem,qAN,d0,d1,d2,d3]) rfl ⟨x.out _ _ _ _,_,_,rfl,by rw[z.out];exact⟨rfl,rfl⟩⟩
   ·rw[if_neg Y]at c;have bQ:=dg_length_pos.2 Y;have aW:=aS.out.le y;have q3:=qCO L false n d _ _ W2 aW ac I Y (by omega) (by omega);have ay:=qCe (s:=false) (n:=n) Y D E;obtain⟨r,hr⟩:∃r,mkR false n d=r:=⟨_,rfl⟩;rw[hr]at q3 ay c;rw[show(dg ((some n).getD 0)).length =(dg n).length from rfl,show(dg ((some d).getD 0)).length =(dg d).length from rfl];obtain⟨l1,bc⟩:∃l1,(dg n).length =l1:=⟨_,rfl⟩;obtain⟨l2,a8⟩:∃l2,(dg d).length =l2:=⟨_,rfl⟩;rw[bc,a8]at q3 ⊢;rw[a8]at bQ;have k1:((l2:Int)==0)=false:=beq_eq_false_iff_ne.2 (by omega);have k2:¬l2=0:=by omega
    have k3:¬(l2:Int)=0:=by omega
    have⟨cg,bm,cY,q,cv,cw,bi,av⟩:=hyd8 q3 ay hr c bc a8 ac I;have⟨Q,S,U,be,J,bu,cr⟩:=hyd7 D E y G m aW Y;clear Y aW m G y E D I ac a8 bc c hr ay q3;go_wp2_with (fail);go_at_call 27;refine cg.out.mono ?_;rintro e W3 ⟨v3,rfl,Z,aD⟩;have ax:=aD;obtain⟨A3,c3,A4,c4,rfl,-,-⟩:=aD.form;have aU:=bu.out.le Z;have al:=qAA W3 (.cells #[.bool (rneg r),.slice A3 (dg (rnum r)).length c3,.slice A4 (dg r.den).length c4] 49);have q4:=qCZ L r _ _ (aU.le al) (ax.le al) (bm.out.up (n:=1000) (by omega));have aL:=U.out.trans Z;have aI:=(Z.block _ (gsl J.out)).trans J.out;rw[qA5]at q4;have⟨ci,c8,bk,bt,bT,bf,an,bU⟩:=hyd8 q4 aD ax aU Z aL aI al;clear al aI aL Z aU ax aD q4;go_wp2_with (fail);go_at_call 16;refine ci.out.mono ?_;rintro e W5 ⟨rfl,aa⟩;obtain⟨H,k9⟩:=qAl aa;have ab:=bf.out.trans H;have P:=(H.block _ (gsl an.out)).trans an.out
    by_cases hs:qAH r=l
    ·rw[hs];have aN:=qCS (by rw[af.out];exact hl) (V.out.trans q.out) hs;have bl:=bk.out.le H;have aV:=bt.out.le H;have q5:=qDg L L r _ W5 aV bl;obtain⟨m0,m1,m2,-⟩:=qAF k9;have⟨cj,c9,cq,bg,bh,au,ag,bj⟩:=hyd8 q5 bl aV aa H ab P aN;have⟨bX,cb⟩:=hyd2 hs k9;clear k9 hs aN P ab H aa aV bl q5;go_wp2_with (fail);go_at_call 28;refine cj.out.mono ?_;rintro e W6 aw;obtain⟨T,v4,c5,rfl,j⟩:=aw.res;obtain⟨s5,A5,n5,c6,s6,A6,n6,c7,rfl⟩:=j.form;have az:=(T.block _ (gsl ag.out)).trans ag.out;have ah:=au.out.trans T;have p:=λu0 u1 u2 u3=>qAQ (u0:=u0) (u1:=u1) (u2:=u2) (u3:=u3) ah (Nat.le_refl _);have A:=λu0 u1 u2 u3=>qAC (qAJ (u0:=u0) (u1:=u1) (u2:=u2) (u3:=u3) az);have aJ:=λu0 u1 u2 u3=>IsRes.box4 (u0:=u0) (u1:=u1) (u2:=u2) (u3:=u3) j az;obtain⟨⟨f0,f1,f2,f3⟩,g0,g1,g2,g3⟩:=qAZ az;have⟨bV,bG,z,cB,x,C,aZ,bH⟩:=hyd8 aw T j az p A aJ ah;clear ah aJ A p az j T aw;go_wp2;obtain⟨d0,d1,d2,d3⟩:=C.out (.bool s5) (.slice A5 n5 c6) (.bool s6) (.slice A6 n6 c7);exact bodyPost_ret (v:= .tuple #[.agg #[.bool s5,.slice A5 n5 c6,.bool s6,.slice A6 n6 c7],.int .i64 c5]) (by simp[results,Tryz.results8,go_sem,d0,d1,d2,d3]) rfl ⟨x.out _ _ _ _,_,_,rfl,by rw[bj.out];exact aZ.out _ _ _ _⟩
    ·have aA:=qAa (qAH r);have a9:=qAa l;have cV:((baL (qAH r)).toList ==(baL l).toList)=false:=by rw[aA,a9];exact beq_eq_false_iff_ne.2 hs
     have bP:¬(baL (qAH r)).toList =(baL l).toList :=by rw[aA,a9];exact hs
     have cW:¬baL (qAH r)=baL l:=λe=>bP (by rw[e]);obtain⟨m0,m1,m2,-⟩:=qAF k9;obtain⟨⟨f0,f1,f2,f3⟩,g0,g1,g2,g3⟩:=qAZ P;have p:=λu0 u1 u2 u3=>qAQ (u0:=u0) (u1:=u1) (u2:=u2) (u3:=u3) ab (Nat.le_refl _);have A:=λu0 u1 u2 u3=>qAC (qAJ (u0:=u0) (u1:=u1) (u2:=u2) (u3:=u3) P);have j:qAE l= .error 13:=qCR (by rw[af.out];exact hl) (V.out.trans q.out) hs;have⟨x,C,z,ag,au,cb,bg,bh⟩:=hyd8 p A j P ab k9 aa H;have⟨bX,cy,cx⟩:=hyd3 hs aA a9;clear a9 aA hs H aa k9 ab P j A p;go_wp2;obtain⟨d0,d1,d2,d3⟩:=C.out (.bool false) (.slice none 0 0) (.bool false) (.slice none 0 0);exact bodyPost_ret (v:= .tuple #[qAN,.int .i64 13]) (by simp[results,Tryz.results8,go_sem,qAN,d0,d1,d2,d3]) rfl ⟨x.out _ _ _ _,_,_,rfl,by rw[z.out];exact⟨rfl,rfl⟩⟩
theorem qFX (L:Nat->Prop) (l:List UInt8) (w:World) (hL:Up w L) (hl:l.length<=800) (hv:(0<l.length/\l.head?≠some 45)):
  Calls Tryz.prog 8 #[strV l] w (qB5 L (qAE l) w):=by
 have c:=qDl hv.2;obtain⟨R,aU⟩:∃R,qBZ l=R:=⟨_,rfl⟩;rw[aU]at c;have cd:=qAP l;obtain⟨N,hN⟩:∃N,l.length=N:=⟨_,rfl⟩;rw[hN]at cd hl;have j1:¬800<(N:Int):=by omega
 have aJ:=True.intro;obtain⟨b0,ce,da⟩:=qHa hv.1 hv.2;have j2:0<(N:Int):=(by omega);have j3:((b0:Int)==45)=false:=beq_eq_false_iff_ne.2 (by omega);have bW:=qFn Tryz.prog 9 l Tryz.underlying9 hv.1;simp only[ce]at bW;obtain⟨t,ht⟩:∃t,l=t:=⟨_,rfl⟩;rw[ht]at c;have b6:t.length<=800:=by rw[<-ht];first |omega| (rw[List.length_drop];omega)
 have br:Value.string ⟨#[49]⟩= .string (baL [49]):=rfl;have b4:=qAA w (.cells #[.bool false,.slice none 0 0,.bool false,.slice none 0 0] 26);have M:=heap_alloc_new w (.cells #[.bool false,.slice none 0 0,.bool false,.slice none 0 0] 26);rw[qA5];have⟨aT,aL,af,V,q,b7,X,cu⟩:=hyd8 hL b4 hN aU c b6 M br;have⟨b5,bT⟩:=hyd2 ht aJ;clear aJ ht br M b6 c aU hN b4 hL;go_enter Tryz.func8,Tryz.ntmps8;go_wp2_with (fail);obtain⟨W0,bQ⟩:∃W0,w.alloc (.cells #[.bool false,.slice none 0 0,.bool false,.slice none 0 0] 26)=W0:=⟨_,rfl⟩;rw[bQ]at aL X ⊢;go_loopw [5,6,7] (λa b i wr=>∃(k:Nat) (f g:List UInt8),i= .int .i64 (k:Int)/\a= .string (baL f)/\b= .string (baL g)/\Hid (PSt t k f g)/\Hid (Le W0 wr)) (λ_ _ i _=>802 - (intOf i).toNat)
 case atStart=>exact⟨0,t,[49],rfl,by first | (rw[<-b5.out];done)| (rw[<-b5.out];exact congrArg Value.string (by rw[<-af.out];exact qCQ l 1 (by have:=af.out;omega))),rfl,Lib.hid (PSt.start t),Lib.hid (Le.refl _)⟩
 case round=>
  obtain⟨k,f,g,rfl,rfl,rfl,O,hb⟩:=hrel;obtain⟨a5,ao,a6⟩:=O.out.len b7.out (by decide);have bU:=qAP f;obtain⟨F,hF⟩:∃F,f.length=F:=⟨_,rfl⟩;rw[hF]at bU
  by_cases de:k<F
  ·have a7:k<f.length:=by omega
   have k1:(k:Int)<(F:Int):=by omega
   have k2:(0:Int)<=(k:Int):=by omega
   have bV:=qC2 Tryz.prog 9 f k Tryz.underlying9 a7;obtain⟨b,M⟩:∃b,f[k]=b:=⟨_,rfl⟩;obtain⟨B,ae⟩:∃B,b.toNat=B:=⟨_,rfl⟩;simp only[M,ae]at bV
   by_cases aQ:B=47
   ·have ad:=O.out.hit a7 (by rw[M,b47,ae];exact aQ);have dh:=qC6 Tryz.prog 9 f k Tryz.underlying9 (by omega);have cc:=qBr Tryz.prog 9 f (k+1) Tryz.underlying9 a7;have bb:((k+1:Nat):Int)=(k:Int)+1:=by omega
    rw[bb]at cc;have k3:(B:Int)=47:=by omega
    have k4:k+1<=801:=by omega
    subst aQ;have⟨aP,a4,bw,bz,b3,aS,X,bs⟩:=hyd8 O hb a5 ao a6 hF M ae;have⟨aj,cx⟩:=hyd2 ad bb;clear bb ad ae M hF a6 ao a5 hb O;go_wp2;go_roundw
    case rel=>exact⟨k+1,_,_,by go_num,rfl,rfl,aj,a4.out⟩
    case measure=>(simp[intOf];try omega)
   ·have ad:=O.out.miss a7 (by rw[Ne,M,b47,ae];exact aQ);have k3:¬(B:Int)=47:=by omega
    have k5:((B:Int)==47)=false:=beq_eq_false_iff_ne.2 k3;have k4:k+1<=801:=by omega
    have⟨aP,a4,bw,bz,b3,aS,X,bs⟩:=hyd8 O hb a5 ao a6 hF M ae;have aj:=hyd1 ad;clear ad ae M hF a6 ao a5 hb O;go_wp2;go_roundw
    case rel=>exact⟨k+1,_,_,by go_num,rfl,rfl,aj,a4.out⟩
    case measure=>(simp[intOf];try omega)
  ·have k1:¬(k:Int)<(F:Int):=by omega
   obtain⟨bv,bx⟩:=O.out.exit (by omega);have c:=q.out;rw[<-bv,<-bx]at c;clear q bv bx;have ak:Le w wr:=aL.out.trans hb.out;have am:=(hb.out.block _ (gsl X.out)).trans X.out;have q1:=qBM L f wr (aT.out.le ak) (by omega);rw[qA5]at q1;have⟨aP,a4,aS,q,cj⟩:=hyd5 O hb hF c q1;clear q1 c hF hb O;go_wp2_with (fail);go_at_call 26;refine cj.out.mono ?_;rintro e W1 ⟨v1,rfl,ap,ai⟩;have q2:=qBM L g W1 (aT.out.le (ak.trans ap)) (by omega);rw[qA5]at q2;obtain⟨o1,aB⟩:∃o,numE f=o:=⟨_,rfl⟩;obtain⟨o2,aC⟩:∃o,numE g=o:=⟨_,rfl⟩;have c:=q.out;have D:∀n,o1=some n->(dg n).length <=800:=λn h=>Nat.le_trans (qB6 (aB.trans h)) (by have:=aS.out;omega);have E:∀n,o2=some n->(dg n).length <=800:=λn h=>Nat.le_trans (qB6 (aC.trans h)) ao;obtain⟨b1,aY⟩:∃b,o1.isSome=b:=⟨_,rfl⟩;obtain⟨b2,aZ⟩:∃b,o2.isSome=b:=⟨_,rfl⟩;rw[aB]at ai c ⊢;rw[aC]at c q2;rw[aY];rw[aZ]at q2;clear q;obtain⟨A1,c1,e1⟩:=ai.slice;subst e1;have⟨q,Q,S,cA,cB,ck,aN,be⟩:=hyd8 c D E aB aC q2 ai ak;have⟨aq,aG,aH⟩:=hyd3 ap aY aZ;clear aZ aY ap ak ai q2 aC aB E D c;go_wp2_with (fail);go_at_call 26;refine ck.out.mono ?_;rintro e W2 ⟨v2,rfl,G,I⟩;have y:Le w W2:=be.out.trans (aq.out.trans G);have m:=((aq.out.trans G).block _ (gsl am)).trans am
   clear am;obtain⟨A2,c2,e2⟩:=I.slice;subst e2;have c:=q.out;have D:=Q.out;have E:=S.out;clear q Q S
   cases b1
   ·have e1:o1=none:=Option.not_isSome_iff_eq_none.1 (by rw[aG.out];decide);subst e1;obtain⟨⟨f0,f1,f2,f3⟩,g0,g1,g2,g3⟩:=qAZ m;have p:=λu0 u1 u2 u3=>qAQ (u0:=u0) (u1:=u1) (u2:=u2) (u3:=u3) y (Nat.le_refl _);have A:=λu0 u1 u2 u3=>qAC (qAJ (u0:=u0) (u1:=u1) (u2:=u2) (u3:=u3) m);have j:qAE l= .error 13:=qA3 (by rw[af.out];exact hl) (V.out.trans c);have⟨x,C,z,J,U,av,q,Q⟩:=hyd8 p A j m y I c D;have S:=hyd1 E;clear E D c I y m j A p;go_wp2;obtain⟨d0,d1,d2,d3⟩:=C.out (.bool false) (.slice none 0 0) (.bool false) (.slice none 0 0);exact bodyPost_ret (v:= .tuple #[qAN,.int .i64 13]) (by simp[results,Tryz.results8,go_sem,qAN,d0,d1,d2,d3]) rfl ⟨x.out _ _ _ _,_,_,rfl,by rw[z.out];exact⟨rfl,rfl⟩⟩
   cases b2
   ·have e2:o2=none:=Option.not_isSome_iff_eq_none.1 (by rw[aH.out];decide);subst e2;have c:R=none:=by rw[c];cases o1<;>rfl
    obtain⟨⟨f0,f1,f2,f3⟩,g0,g1,g2,g3⟩:=qAZ m;have p:=λu0 u1 u2 u3=>qAQ (u0:=u0) (u1:=u1) (u2:=u2) (u3:=u3) y (Nat.le_refl _);have A:=λu0 u1 u2 u3=>qAC (qAJ (u0:=u0) (u1:=u1) (u2:=u2) (u3:=u3) m);have j:qAE l= .error 13:=qA3 (by rw[af.out];exact hl) (V.out.trans c);have⟨x,C,z,J,U,av,q,Q⟩:=hyd8 p A j m y I c D;have S:=hyd1 E;clear E D c I y m j A p;go_wp2;obtain⟨d0,d1,d2,d3⟩:=C.out (.bool false) (.slice none 0 0) (.bool false) (.slice none 0 0);exact bodyPost_ret (v:= .tuple #[qAN,.int .i64 13]) (by simp[results,Tryz.results8,go_sem,qAN,d0,d1,d2,d3]) rfl ⟨x.out _ _ _ _,_,_,rfl,by rw[z.out];exact⟨rfl,rfl⟩⟩
   obtain⟨n,e1⟩:=Option.isSome_iff_exists.1 aG.out;obtain⟨d,e2⟩:=Option.isSome_iff_exists.1 aH.out;subst e1 e2;have c:R=if d=0 then none else some (mkR false n d):=c;have D:=D n rfl;have E:=E d rfl;have ai:NumL L .i64 W1 (.slice A1 (dg n).length c1) n:=aN.out;have I:NumL L .i64 W2 (.slice A2 (dg d).length c2) d:=I;have ac:=ai.le G;have ar:=G;clear aN ai
   by_cases Y:d=0
   ·rw[if_pos Y]at c;subst Y;have bc:(dg 0).length =0:=by rw[qAI];rfl
    rw[show(dg ((some 0).getD 0)).length =0 from bc];obtain⟨⟨f0,f1,f2,f3⟩,g0,g1,g2,g3⟩:=qAZ m;have p:=λu0 u1 u2 u3=>qAQ (u0:=u0) (u1:=u1) (u2:=u2) (u3:=u3) y (Nat.le_refl _);have A:=λu0 u1 u2 u3=>qAC (qAJ (u0:=u0) (u1:=u1) (u2:=u2) (u3:=u3) m);have j:qAE l= .error 13:=qA3 (by rw[af.out];exact hl) (V.out.trans c);have⟨x,C,z,J,U,av,q,Q⟩:=hyd8 p A j m y I c D;have⟨S,bj,bf,bJ,cy⟩:=hyd5 E ac G ar bc;clear bc ar G ac E D c I y m j A p;go_wp2;obtain⟨d0,d1,d2,d3⟩:=C.out (.bool false) (.slice none 0 0) (.bool false) (.slice none 0 0);exact bodyPost_ret (v:= .tuple #[qAN,.int .i64 13]) (by simp[results,Tryz.results8,go_sem,qAN,d0,d1,d2,d3]) rfl ⟨x.out _ _ _ _,_,_,rfl,by rw[z.out];exact⟨rfl,rfl⟩⟩
   ·rw[if_neg Y]at c;have bS:=dg_length_pos.2 Y;have aX:=aT.out.le y;have q3:=qCO L false n d _ _ W2 aX ac I Y (by omega) (by omega);have ay:=qCe (s:=false) (n:=n) Y D E;obtain⟨r,hr⟩:∃r,mkR false n d=r:=⟨_,rfl⟩;rw[hr]at q3 ay c;rw[show(dg ((some n).getD 0)).length =(dg n).length from rfl,show(dg ((some d).getD 0)).length =(dg d).length from rfl];obtain⟨l1,bd⟩:∃l1,(dg n).length =l1:=⟨_,rfl⟩;obtain⟨l2,a8⟩:∃l2,(dg d).length =l2:=⟨_,rfl⟩;rw[bd,a8]at q3 ⊢;rw[a8]at bS;have k1:((l2:Int)==0)=false:=beq_eq_false_iff_ne.2 (by omega);have k2:¬l2=0:=by omega
    have k3:¬(l2:Int)=0:=by omega
    have⟨cl,bn,df,q,cz,c0,bj,av⟩:=hyd8 q3 ay hr c bd a8 ac I;have⟨Q,S,U,bf,J,bu,cw⟩:=hyd7 D E y G m aX Y;clear Y aX m G y E D I ac a8 bd c hr ay q3;go_wp2_with (fail);go_at_call 27;refine cl.out.mono ?_;rintro e W3 ⟨v3,rfl,Z,aD⟩;have ax:=aD;obtain⟨A3,c3,A4,c4,rfl,-,-⟩:=aD.form;have aV:=bu.out.le Z;have al:=qAA W3 (.cells #[.bool (rneg r),.slice A3 (dg (rnum r)).length c3,.slice A4 (dg r.den).length c4] 49);have q4:=qCZ L r _ _ (aV.le al) (ax.le al) (bn.out.up (n:=1000) (by omega));have aM:=U.out.trans Z;have aI:=(Z.block _ (gsl J.out)).trans J.out;rw[qA5]at q4;have⟨cn,cC,bl,bt,bX,bg,an,bY⟩:=hyd8 q4 aD ax aV Z aM aI al;clear al aI aM Z aV ax aD q4;go_wp2_with (fail);go_at_call 16;refine cn.out.mono ?_;rintro e W5 ⟨rfl,aa⟩;obtain⟨H,k9⟩:=qAl aa;have ab:=bg.out.trans H;have P:=(H.block _ (gsl an.out)).trans an.out
    by_cases hs:qAH r=l
    ·rw[hs];have aO:=qCS (by rw[af.out];exact hl) (V.out.trans q.out) hs;have bm:=bl.out.le H;have aW:=bt.out.le H;have q5:=qDg L L r _ W5 aW bm;obtain⟨m0,m1,m2,-⟩:=qAF k9;have⟨co,cD,cv,bh,bi,au,ag,bk⟩:=hyd8 q5 bm aW aa H ab P aO;have⟨cb,cg⟩:=hyd2 hs k9;clear k9 hs aO P ab H aa aW bm q5;go_wp2_with (fail);go_at_call 28;refine co.out.mono ?_;rintro e W6 aw;obtain⟨T,v4,c5,rfl,j⟩:=aw.res;obtain⟨s5,A5,n5,c6,s6,A6,n6,c7,rfl⟩:=j.form;have az:=(T.block _ (gsl ag.out)).trans ag.out;have ah:=au.out.trans T;have p:=λu0 u1 u2 u3=>qAQ (u0:=u0) (u1:=u1) (u2:=u2) (u3:=u3) ah (Nat.le_refl _);have A:=λu0 u1 u2 u3=>qAC (qAJ (u0:=u0) (u1:=u1) (u2:=u2) (u3:=u3) az);have aK:=λu0 u1 u2 u3=>IsRes.box4 (u0:=u0) (u1:=u1) (u2:=u2) (u3:=u3) j az;obtain⟨⟨f0,f1,f2,f3⟩,g0,g1,g2,g3⟩:=qAZ az;have⟨bZ,bH,z,cF,x,C,ba,bI⟩:=hyd8 aw T j az p A aK ah;clear ah aK A p az j T aw;go_wp2;obtain⟨d0,d1,d2,d3⟩:=C.out (.bool s5) (.slice A5 n5 c6) (.bool s6) (.slice A6 n6 c7);exact bodyPost_ret (v:= .tuple #[.agg #[.bool s5,.slice A5 n5 c6,.bool s6,.slice A6 n6 c7],.int .i64 c5]) (by simp[results,Tryz.results8,go_sem,d0,d1,d2,d3]) rfl ⟨x.out _ _ _ _,_,_,rfl,by rw[bk.out];exact ba.out _ _ _ _⟩
    ·have aA:=qAa (qAH r);have a9:=qAa l;have db:((baL (qAH r)).toList ==(baL l).toList)=false:=by rw[aA,a9];exact beq_eq_false_iff_ne.2 hs
     have bR:¬(baL (qAH r)).toList =(baL l).toList :=by rw[aA,a9];exact hs
     have dc:¬baL (qAH r)=baL l:=λe=>bR (by rw[e]);obtain⟨m0,m1,m2,-⟩:=qAF k9;obtain⟨⟨f0,f1,f2,f3⟩,g0,g1,g2,g3⟩:=qAZ P;have p:=λu0 u1 u2 u3=>qAQ (u0:=u0) (u1:=u1) (u2:=u2) (u3:=u3) ab (Nat.le_refl _);have A:=λu0 u1 u2 u3=>qAC (qAJ (u0:=u0) (u1:=u1) (u2:=u2) (u3:=u3) P);have j:qAE l= .error 13:=qCR (by rw[af.out];exact hl) (V.out.trans q.out) hs;have⟨x,C,z,ag,au,cg,bh,bi⟩:=hyd8 p A j P ab k9 aa H;have⟨cb,c9,c8⟩:=hyd3 hs aA a9;clear a9 aA hs H aa k9 ab P j A p;go_wp2;obtain⟨d0,d1,d2,d3⟩:=C.out (.bool false) (.slice none 0 0) (.bool false) (.slice none 0 0);exact bodyPost_ret (v:= .tuple #[qAN,.int .i64 13]) (by simp[results,Tryz.results8,go_sem,qAN,d0,d1,d2,d3]) rfl ⟨x.out _ _ _ _,_,_,rfl,by rw[z.out];exact⟨rfl,rfl⟩⟩
theorem qFY (L:Nat->Prop) (l:List UInt8) (w:World) (hL:Up w L) (hl:l.length<=800) (hv:(l.head?=some 45)):
  Calls Tryz.prog 8 #[strV l] w (qB5 L (qAE l) w):=by
 have c:=qFV hv;obtain⟨R,aU⟩:∃R,qBZ l=R:=⟨_,rfl⟩;rw[aU]at c;have cd:=qAP l;obtain⟨N,hN⟩:∃N,l.length=N:=⟨_,rfl⟩;rw[hN]at cd hl;have j1:¬800<(N:Int):=by omega
 have aJ:=True.intro;obtain⟨b7,ce⟩:=qHK hv;have j2:0<(N:Int):=(by omega);have bW:=qFn Tryz.prog 9 l Tryz.underlying9 b7;simp only[ce]at bW;have db:=qBr Tryz.prog 9 l 1 Tryz.underlying9 b7;obtain⟨t,ht⟩:∃t,(l.drop 1)=t:=⟨_,rfl⟩;rw[ht]at c;have b5:t.length<=800:=by rw[<-ht];first |omega| (rw[List.length_drop];omega)
 have br:Value.string ⟨#[49]⟩= .string (baL [49]):=rfl;have b3:=qAA w (.cells #[.bool false,.slice none 0 0,.bool false,.slice none 0 0] 26);have M:=heap_alloc_new w (.cells #[.bool false,.slice none 0 0,.bool false,.slice none 0 0] 26);rw[qA5];have⟨aT,aL,af,V,q,b6,X,cu⟩:=hyd8 hL b3 hN aU c b5 M br;have⟨b4,bT⟩:=hyd2 ht aJ;clear aJ ht br M b5 c aU hN b3 hL;go_enter Tryz.func8,Tryz.ntmps8;go_wp2_with (fail);obtain⟨W0,bQ⟩:∃W0,w.alloc (.cells #[.bool false,.slice none 0 0,.bool false,.slice none 0 0] 26)=W0:=⟨_,rfl⟩;rw[bQ]at aL X ⊢;go_loopw [5,6,7] (λa b i wr=>∃(k:Nat) (f g:List UInt8),i= .int .i64 (k:Int)/\a= .string (baL f)/\b= .string (baL g)/\Hid (PSt t k f g)/\Hid (Le W0 wr)) (λ_ _ i _=>802 - (intOf i).toNat)
 case atStart=>exact⟨0,t,[49],rfl,by first | (rw[<-b4.out];done)| (rw[<-b4.out];exact congrArg Value.string (by rw[<-af.out];exact qCQ l 1 (by have:=af.out;omega))),rfl,Lib.hid (PSt.start t),Lib.hid (Le.refl _)⟩
 case round=>
  obtain⟨k,f,g,rfl,rfl,rfl,O,hb⟩:=hrel;obtain⟨a5,ao,a6⟩:=O.out.len b6.out (by decide);have bU:=qAP f;obtain⟨F,hF⟩:∃F,f.length=F:=⟨_,rfl⟩;rw[hF]at bU
  by_cases dc:k<F
  ·have a7:k<f.length:=by omega
   have k1:(k:Int)<(F:Int):=by omega
   have k2:(0:Int)<=(k:Int):=by omega
   have bV:=qC2 Tryz.prog 9 f k Tryz.underlying9 a7;obtain⟨b,M⟩:∃b,f[k]=b:=⟨_,rfl⟩;obtain⟨B,ae⟩:∃B,b.toNat=B:=⟨_,rfl⟩;simp only[M,ae]at bV
   by_cases aQ:B=47
   ·have ad:=O.out.hit a7 (by rw[M,b47,ae];exact aQ);have df:=qC6 Tryz.prog 9 f k Tryz.underlying9 (by omega);have cc:=qBr Tryz.prog 9 f (k+1) Tryz.underlying9 a7;have bb:((k+1:Nat):Int)=(k:Int)+1:=by omega
    rw[bb]at cc;have k3:(B:Int)=47:=by omega
    have k4:k+1<=801:=by omega
    subst aQ;have⟨aP,a4,bw,bz,b0,aS,X,bs⟩:=hyd8 O hb a5 ao a6 hF M ae;have⟨aj,cx⟩:=hyd2 ad bb;clear bb ad ae M hF a6 ao a5 hb O;go_wp2;go_roundw
    case rel=>exact⟨k+1,_,_,by go_num,rfl,rfl,aj,a4.out⟩
    case measure=>(simp[intOf];try omega)
   ·have ad:=O.out.miss a7 (by rw[Ne,M,b47,ae];exact aQ);have k3:¬(B:Int)=47:=by omega
    have k5:((B:Int)==47)=false:=beq_eq_false_iff_ne.2 k3;have k4:k+1<=801:=by omega
    have⟨aP,a4,bw,bz,b0,aS,X,bs⟩:=hyd8 O hb a5 ao a6 hF M ae;have aj:=hyd1 ad;clear ad ae M hF a6 ao a5 hb O;go_wp2;go_roundw
    case rel=>exact⟨k+1,_,_,by go_num,rfl,rfl,aj,a4.out⟩
    case measure=>(simp[intOf];try omega)
  ·have k1:¬(k:Int)<(F:Int):=by omega
   obtain⟨bv,bx⟩:=O.out.exit (by omega);have c:=q.out;rw[<-bv,<-bx]at c;clear q bv bx;have ak:Le w wr:=aL.out.trans hb.out;have am:=(hb.out.block _ (gsl X.out)).trans X.out;have q1:=qBM L f wr (aT.out.le ak) (by omega);rw[qA5]at q1;have⟨aP,a4,aS,q,cj⟩:=hyd5 O hb hF c q1;clear q1 c hF hb O;go_wp2_with (fail);go_at_call 26;refine cj.out.mono ?_;rintro e W1 ⟨v1,rfl,ap,ai⟩;have q2:=qBM L g W1 (aT.out.le (ak.trans ap)) (by omega);rw[qA5]at q2;obtain⟨o1,aB⟩:∃o,numE f=o:=⟨_,rfl⟩;obtain⟨o2,aC⟩:∃o,numE g=o:=⟨_,rfl⟩;have c:=q.out;have D:∀n,o1=some n->(dg n).length <=800:=λn h=>Nat.le_trans (qB6 (aB.trans h)) (by have:=aS.out;omega);have E:∀n,o2=some n->(dg n).length <=800:=λn h=>Nat.le_trans (qB6 (aC.trans h)) ao;obtain⟨b1,aY⟩:∃b,o1.isSome=b:=⟨_,rfl⟩;obtain⟨b2,aZ⟩:∃b,o2.isSome=b:=⟨_,rfl⟩;rw[aB]at ai c ⊢;rw[aC]at c q2;rw[aY];rw[aZ]at q2;clear q;obtain⟨A1,c1,e1⟩:=ai.slice;subst e1;have⟨q,Q,S,cA,cB,ck,aN,be⟩:=hyd8 c D E aB aC q2 ai ak;have⟨aq,aG,aH⟩:=hyd3 ap aY aZ;clear aZ aY ap ak ai q2 aC aB E D c;go_wp2_with (fail);go_at_call 26;refine ck.out.mono ?_;rintro e W2 ⟨v2,rfl,G,I⟩;have y:Le w W2:=be.out.trans (aq.out.trans G);have m:=((aq.out.trans G).block _ (gsl am)).trans am
   clear am;obtain⟨A2,c2,e2⟩:=I.slice;subst e2;have c:=q.out;have D:=Q.out;have E:=S.out;clear q Q S
   cases b1
   ·have e1:o1=none:=Option.not_isSome_iff_eq_none.1 (by rw[aG.out];decide);subst e1;obtain⟨⟨f0,f1,f2,f3⟩,g0,g1,g2,g3⟩:=qAZ m;have p:=λu0 u1 u2 u3=>qAQ (u0:=u0) (u1:=u1) (u2:=u2) (u3:=u3) y (Nat.le_refl _);have A:=λu0 u1 u2 u3=>qAC (qAJ (u0:=u0) (u1:=u1) (u2:=u2) (u3:=u3) m);have j:qAE l= .error 13:=qA3 (by rw[af.out];exact hl) (V.out.trans c);have⟨x,C,z,J,U,av,q,Q⟩:=hyd8 p A j m y I c D;have S:=hyd1 E;clear E D c I y m j A p;go_wp2;obtain⟨d0,d1,d2,d3⟩:=C.out (.bool false) (.slice none 0 0) (.bool false) (.slice none 0 0);exact bodyPost_ret (v:= .tuple #[qAN,.int .i64 13]) (by simp[results,Tryz.results8,go_sem,qAN,d0,d1,d2,d3]) rfl ⟨x.out _ _ _ _,_,_,rfl,by rw[z.out];exact⟨rfl,rfl⟩⟩
   cases b2
   ·have e2:o2=none:=Option.not_isSome_iff_eq_none.1 (by rw[aH.out];decide);subst e2;have c:R=none:=by rw[c];cases o1<;>rfl
    obtain⟨⟨f0,f1,f2,f3⟩,g0,g1,g2,g3⟩:=qAZ m;have p:=λu0 u1 u2 u3=>qAQ (u0:=u0) (u1:=u1) (u2:=u2) (u3:=u3) y (Nat.le_refl _);have A:=λu0 u1 u2 u3=>qAC (qAJ (u0:=u0) (u1:=u1) (u2:=u2) (u3:=u3) m);have j:qAE l= .error 13:=qA3 (by rw[af.out];exact hl) (V.out.trans c);have⟨x,C,z,J,U,av,q,Q⟩:=hyd8 p A j m y I c D;have S:=hyd1 E;clear E D c I y m j A p;go_wp2;obtain⟨d0,d1,d2,d3⟩:=C.out (.bool false) (.slice none 0 0) (.bool false) (.slice none 0 0);exact bodyPost_ret (v:= .tuple #[qAN,.int .i64 13]) (by simp[results,Tryz.results8,go_sem,qAN,d0,d1,d2,d3]) rfl ⟨x.out _ _ _ _,_,_,rfl,by rw[z.out];exact⟨rfl,rfl⟩⟩
   obtain⟨n,e1⟩:=Option.isSome_iff_exists.1 aG.out;obtain⟨d,e2⟩:=Option.isSome_iff_exists.1 aH.out;subst e1 e2;have c:R=if d=0 then none else some (mkR true n d):=c;have D:=D n rfl;have E:=E d rfl;have ai:NumL L .i64 W1 (.slice A1 (dg n).length c1) n:=aN.out;have I:NumL L .i64 W2 (.slice A2 (dg d).length c2) d:=I;have ac:=ai.le G;have ar:=G;clear aN ai
   by_cases Y:d=0
   ·rw[if_pos Y]at c;subst Y;have bc:(dg 0).length =0:=by rw[qAI];rfl
    rw[show(dg ((some 0).getD 0)).length =0 from bc];obtain⟨⟨f0,f1,f2,f3⟩,g0,g1,g2,g3⟩:=qAZ m;have p:=λu0 u1 u2 u3=>qAQ (u0:=u0) (u1:=u1) (u2:=u2) (u3:=u3) y (Nat.le_refl _);have A:=λu0 u1 u2 u3=>qAC (qAJ (u0:=u0) (u1:=u1) (u2:=u2) (u3:=u3) m);have j:qAE l= .error 13:=qA3 (by rw[af.out];exact hl) (V.out.trans c);have⟨x,C,z,J,U,av,q,Q⟩:=hyd8 p A j m y I c D;have⟨S,bj,bf,bJ,cy⟩:=hyd5 E ac G ar bc;clear bc ar G ac E D c I y m j A p;go_wp2;obtain⟨d0,d1,d2,d3⟩:=C.out (.bool false) (.slice none 0 0) (.bool false) (.slice none 0 0);exact bodyPost_ret (v:= .tuple #[qAN,.int .i64 13]) (by simp[results,Tryz.results8,go_sem,qAN,d0,d1,d2,d3]) rfl ⟨x.out _ _ _ _,_,_,rfl,by rw[z.out];exact⟨rfl,rfl⟩⟩
   ·rw[if_neg Y]at c;have bS:=dg_length_pos.2 Y;have aX:=aT.out.le y;have q3:=qCO L true n d _ _ W2 aX ac I Y (by omega) (by omega);have ay:=qCe (s:=true) (n:=n) Y D E;obtain⟨r,hr⟩:∃r,mkR true n d=r:=⟨_,rfl⟩;rw[hr]at q3 ay c;rw[show(dg ((some n).getD 0)).length =(dg n).length from rfl,show(dg ((some d).getD 0)).length =(dg d).length from rfl];obtain⟨l1,bd⟩:∃l1,(dg n).length =l1:=⟨_,rfl⟩;obtain⟨l2,a8⟩:∃l2,(dg d).length =l2:=⟨_,rfl⟩;rw[bd,a8]at q3 ⊢;rw[a8]at bS;have k1:((l2:Int)==0)=false:=beq_eq_false_iff_ne.2 (by omega);have k2:¬l2=0:=by omega
    have k3:¬(l2:Int)=0:=by omega
    have⟨cl,bn,de,q,cz,c0,bj,av⟩:=hyd8 q3 ay hr c bd a8 ac I;have⟨Q,S,U,bf,J,bu,cw⟩:=hyd7 D E y G m aX Y;clear Y aX m G y E D I ac a8 bd c hr ay q3;go_wp2_with (fail);go_at_call 27;refine cl.out.mono ?_;rintro e W3 ⟨v3,rfl,Z,aD⟩;have ax:=aD;obtain⟨A3,c3,A4,c4,rfl,-,-⟩:=aD.form;have aV:=bu.out.le Z;have al:=qAA W3 (.cells #[.bool (rneg r),.slice A3 (dg (rnum r)).length c3,.slice A4 (dg r.den).length c4] 49);have q4:=qCZ L r _ _ (aV.le al) (ax.le al) (bn.out.up (n:=1000) (by omega));have aM:=U.out.trans Z;have aI:=(Z.block _ (gsl J.out)).trans J.out;rw[qA5]at q4;have⟨cn,cC,bl,bt,bX,bg,an,bY⟩:=hyd8 q4 aD ax aV Z aM aI al;clear al aI aM Z aV ax aD q4;go_wp2_with (fail);go_at_call 16;refine cn.out.mono ?_;rintro e W5 ⟨rfl,aa⟩;obtain⟨H,k9⟩:=qAl aa;have ab:=bg.out.trans H;have P:=(H.block _ (gsl an.out)).trans an.out
    by_cases hs:qAH r=l
    ·rw[hs];have aO:=qCS (by rw[af.out];exact hl) (V.out.trans q.out) hs;have bm:=bl.out.le H;have aW:=bt.out.le H;have q5:=qDg L L r _ W5 aW bm;obtain⟨m0,m1,m2,-⟩:=qAF k9;have⟨co,cD,cv,bh,bi,au,ag,bk⟩:=hyd8 q5 bm aW aa H ab P aO;have⟨cb,cg⟩:=hyd2 hs k9;clear k9 hs aO P ab H aa aW bm q5;go_wp2_with (fail);go_at_call 28;refine co.out.mono ?_;rintro e W6 aw;obtain⟨T,v4,c5,rfl,j⟩:=aw.res;obtain⟨s5,A5,n5,c6,s6,A6,n6,c7,rfl⟩:=j.form;have az:=(T.block _ (gsl ag.out)).trans ag.out;have ah:=au.out.trans T;have p:=λu0 u1 u2 u3=>qAQ (u0:=u0) (u1:=u1) (u2:=u2) (u3:=u3) ah (Nat.le_refl _);have A:=λu0 u1 u2 u3=>qAC (qAJ (u0:=u0) (u1:=u1) (u2:=u2) (u3:=u3) az);have aK:=λu0 u1 u2 u3=>IsRes.box4 (u0:=u0) (u1:=u1) (u2:=u2) (u3:=u3) j az;obtain⟨⟨f0,f1,f2,f3⟩,g0,g1,g2,g3⟩:=qAZ az;have⟨bZ,bH,z,cF,x,C,ba,bI⟩:=hyd8 aw T j az p A aK ah;clear ah aK A p az j T aw;go_wp2;obtain⟨d0,d1,d2,d3⟩:=C.out (.bool s5) (.slice A5 n5 c6) (.bool s6) (.slice A6 n6 c7);exact bodyPost_ret (v:= .tuple #[.agg #[.bool s5,.slice A5 n5 c6,.bool s6,.slice A6 n6 c7],.int .i64 c5]) (by simp[results,Tryz.results8,go_sem,d0,d1,d2,d3]) rfl ⟨x.out _ _ _ _,_,_,rfl,by rw[bk.out];exact ba.out _ _ _ _⟩
    ·have aA:=qAa (qAH r);have a9:=qAa l;have cZ:((baL (qAH r)).toList ==(baL l).toList)=false:=by rw[aA,a9];exact beq_eq_false_iff_ne.2 hs
     have bR:¬(baL (qAH r)).toList =(baL l).toList :=by rw[aA,a9];exact hs
     have da:¬baL (qAH r)=baL l:=λe=>bR (by rw[e]);obtain⟨m0,m1,m2,-⟩:=qAF k9;obtain⟨⟨f0,f1,f2,f3⟩,g0,g1,g2,g3⟩:=qAZ P;have p:=λu0 u1 u2 u3=>qAQ (u0:=u0) (u1:=u1) (u2:=u2) (u3:=u3) ab (Nat.le_refl _);have A:=λu0 u1 u2 u3=>qAC (qAJ (u0:=u0) (u1:=u1) (u2:=u2) (u3:=u3) P);have j:qAE l= .error 13:=qCR (by rw[af.out];exact hl) (V.out.trans q.out) hs;have⟨x,C,z,ag,au,cg,bh,bi⟩:=hyd8 p A j P ab k9 aa H;have⟨cb,c9,c8⟩:=hyd3 hs aA a9;clear a9 aA hs H aa k9 ab P j A p;go_wp2;obtain⟨d0,d1,d2,d3⟩:=C.out (.bool false) (.slice none 0 0) (.bool false) (.slice none 0 0);exact bodyPost_ret (v:= .tuple #[qAN,.int .i64 13]) (by simp[results,Tryz.results8,go_sem,qAN,d0,d1,d2,d3]) rfl ⟨x.out _ _ _ _,_,_,rfl,by rw[z.out];exact⟨rfl,rfl⟩⟩
theorem qEQ (L:Nat->Prop) (l:List UInt8) (w:World) (hL:Up w L) (hl2:l.length<=1000000):
  Calls Tryz.prog 8 #[strV l] w (qB5 L (qAE l) w):=by
 by_cases h:800<l.length
 ·exact qEP L l w hL h hl2
 ·by_cases b:l.head?=some 45
  ·exact qFY L l w hL (by omega) b
  ·by_cases c:0<l.length
   ·exact qFX L l w hL (by omega) ⟨c,b⟩
   ·exact qFW L l w hL (by omega) (List.length_eq_zero_iff.1 (by omega))
end Go.Proofs.YtfmfefibadpobaaGreatDoor
