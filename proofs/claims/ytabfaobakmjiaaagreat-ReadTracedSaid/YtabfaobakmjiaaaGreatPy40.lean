/- exact: operated, Add, Sub, Mul, Div, Compare. exact: Nearest's closure. exact: FromInt, Ratio, Nearest. -/
import Derived.Test.YtabfaobakmjiaaaGreatPy34
namespace Go.Proofs.YtabfaobakmjiaaaGreat
set_option maxRecDepth 100000
set_option maxHeartbeats 1000000
open Go.RowKit Go.Shelf
set_option linter.unusedVariables false
set_option linter.unusedSimpArgs false
theorem FBox.mk {w W:World} {B:Nat} {x:FracA} {A A':Option Addr} {c c':Nat} {L:Nat->Prop} (hv:IsFracA L w (.agg #[.bool x.sn,.slice A x.gn.length c,.bool x.sd,.slice A' x.gd.length c']) x) (hle:Le w W) (hk:W.heap[B]? =some (.cells #[.bool x.sn,.slice A x.gn.length c,.bool x.sd,.slice A' x.gd.length c'] 76)):FBox W B (.agg #[.bool x.sn,.slice A x.gn.length c,.bool x.sd,.slice A' x.gd.length c']) x:=
 ⟨A,c,A',c',rfl,hk,(hv.le hle).mono λ_ _=>trivial⟩
attribute [local go_sem] Oper.semAt_some
def qCu (x:FracA) (w:World) (e:Ending) (w':World):Prop:=Le w w'/\(((qAV x).2=0/\e= .returned (.int .i64 (qAV x).1))∨((qAV x).2≠0/\e= .panicked (flt (qAV x).2)))
theorem qEG (W:World) (t:TypeId):RatL (λ_=>True) .u32 ((W.alloc (.cells #[.int .u32 1] t)).alloc (.cells #[.int .u32 2] t)) (.agg #[.bool false,.slice (some ⟨W.heap.size,0,none⟩) 1 1,.slice (some ⟨W.heap.size+1,0,none⟩) 1 1]) halfR:=by
 obtain⟨b,c,d⟩:=qHQ;refine⟨_,_,by rw[b],?_,?_⟩
 ·rw[c];exact(qFV (L:=λ_=>True) (k:= .u32) (V:=W) (g:=1) (λ_ _=>trivial) (by omega) qGa t).le (qAB _ _)
 ·rw[d];have h:=qFV (L:=λ_=>True) (k:= .u32) (V:=W.alloc (.cells #[.int .u32 1] t)) (g:=2) (λ_ _=>trivial) (by omega) (by rw[qA3];omega) t;rw[World.size_alloc]at h;exact h
structure NearI (W0:World) (n₀ R:Nat) (t:TypeId) (Bs:List Nat) (N:Nat) (pre:List (Fin (dg N).length)) (W:World):Prop where
 kept:Kept n₀ Bs W0 W
 size:W0.heap.size<=W.heap.size
 ex:∃z:Int,W.heap[R]? =some (.cells #[.int .i64 z] t)/\(pre<+:List.finRange (dg N).length ->z=(nv ((dg N).drop ((dg N).length - pre.length)):Int))
theorem NearI.from (W0:World) (n₀ R:Nat) (t:TypeId) (Bs:List Nat) (N N0:Nat) (h:W0.heap.size<=N0) (hn:n₀<=W0.heap.size) (hR:R<N0) (hBs:∀B∈Bs,B<W0.heap.size):OwnFrom N0 (NearI W0 n₀ R t Bs N):=by
 rintro s X Y l ⟨g,j,z,d,i⟩ c b;refine⟨g.trans ⟨(Below.refl _ _).grown c (by omega) λk e=>by have:=(b k e).1;omega,λB f=>c.block B (by have:=hBs B f;omega) (λe=>by have:=(b _ e.symm).1;have:=hBs B f;omega)⟩,Nat.le_trans j c.size,z,?_,i⟩;exact(c.block R (gsl d) (λe=>by have:=(b _ e.symm).1;omega)).trans d
theorem qNn (l:List Nat) (k:Nat) (h:k<=l.length):nv (l.drop k)<=nv l:=by
 have e:=qBs l k h;have:0<B9^k:=qFB k;have:=Nat.le_mul_of_pos_left (nv (l.drop k)) this;omega
theorem qPK {N m g:Nat} {z:Int} (hN:N<=4611686018427387904) (hm:m<(dg N).length) (hg:(dg N)[m]=g) (hz:z=(nv ((dg N).drop (m+1)):Int)):wrap64 (wrap64 (z*1000000000)+(g:Int))=(nv ((dg N).drop m):Int):=by
 have e:=qCf (dg N) m hm;have b:=qNn (dg N) m (by omega);rw[qAf]at b;rw[hg,qA3]at e;subst hz;have c:wrap64 ((nv ((dg N).drop (m+1)):Int)*1000000000)=(nv ((dg N).drop (m+1)):Int)*1000000000:=IntWalk.wrap64_in _ (by omega);rw[c];have d:(nv ((dg N).drop (m+1)):Int)*1000000000+(g:Int)=(nv ((dg N).drop m):Int):=by omega
 rw[d];exact IntWalk.wrap64_in _ (by omega)
theorem NearI.step {W0:World} {n₀ R:Nat} {t:TypeId} {Bs:List Nat} {N:Nat} {pre:List (Fin (dg N).length)} {x:Fin (dg N).length} {W:World} {z:Int} (hN:N<=4611686018427387904)
  (k1:Kept n₀ Bs W0 W) (k2:W0.heap.size<=W.heap.size) (h5:W.heap[R]? =some (.cells #[.int .i64 z] t)) (h6:pre<+:List.finRange (dg N).length ->z=(nv ((dg N).drop ((dg N).length - pre.length)):Int))
  (m g:Nat) (hm:(dg N).length - 1 - x.1=m) (hg:(dg N)[m]?.getD 0=g) (hR:n₀<=R) (hBs:∀B∈Bs,B≠R) (N0:Nat) (aa:Act):
  ownPostG N0 (Kept n₀ Bs) (NearI W0 n₀ R t Bs N) (λ_ _ _=>False) (pre++[x]) W .normal aa (W.setCell ⟨R,0,none⟩ (.int .i64 (wrap64 (wrap64 (z*1000000000)+(g:Int))))):=by
 have k:=x.2;have b:m<(dg N).length :=by omega
 have c:(dg N)[m]=g:=by rw[<-hg];simp[b]
 have f:Kept n₀ Bs W (W.setCell ⟨R,0,none⟩ (.int .i64 (wrap64 (wrap64 (z*1000000000)+(g:Int))))):=⟨(Below.refl _ W).setCell (p:=⟨R,0,none⟩) hR _,λB h=>Below.heap_setCell _ _ _ _ (hBs B h)⟩;refine⟨(KeepsOthers.setCell _ _ _).from _,f,k1.trans f,by simpa[World.setCell]using k2,_,qAZ h5,λi=>?_⟩;obtain⟨j,l⟩:=qCh i;have d:=h6 j;rw[show(dg N).length - pre.length=m+1 by omega]at d;rw[List.length_append,List.length_singleton,show(dg N).length - (pre.length+1)=m by omega];exact qPK hN b c d
theorem qFe:qAW Tryz.prog 145:=λ_ _=>by kernel_rfl
theorem qH7 (x:FracA) (Bx:Nat) (va:Value) (w:World) (hx:FBox w Bx va x) (hr:x.rat?=none):
  Calls Tryz.prog 145 #[.pointer (some ⟨Bx,0,none⟩)] w (qCu x w):=by
 obtain⟨A,c,l,r,rfl,i,f⟩:=hx;obtain⟨n,o,p,q⟩:=qAy i;have j:qAV x=(0,10):=by unfold qAV;rw[hr]
 have⟨k,g,h,b⟩:=hyd4 i f hr j;clear j hr f i;go_enter Tryz.func145,Tryz.ntmps145;go_wp2_with (fail);go_at_call 137;refine(qFs (λ_=>True) x _ w (Up.any _) g.out h.out).mono ?_;rintro e m ⟨rfl,d⟩;go_wp2_with (fail);exact⟨rfl,d,.inr ⟨by rw[b.out];decide,by rw[b.out]⟩⟩
theorem qH8 (x:FracA) (r:Rat) (Bx:Nat) (va:Value) (w:World) (hx:FBox w Bx va x) (hr:x.rat?=some r) (N q0 m0:Nat) (hN:qCM r=N) (hq0:rnum (r+halfR) / (r+halfR).den =q0) (hm0:rnum (r+halfR)%(r+halfR).den =m0) (hfit:4611686018427387904<N) (hsb:rneg (r+halfR)=true) (hm0p:m0≠0):
  Calls Tryz.prog 145 #[.pointer (some ⟨Bx,0,none⟩)] w (qCu x w):=by
 obtain⟨A,c,A',c',rfl,kx,aP⟩:=hx;obtain⟨a0,a1,a2,a3⟩:=qAy kx;have M:=FracA.sz hr;obtain⟨b,hb⟩:∃b,r+halfR=b:=⟨_,rfl⟩;rw[hb]at hq0 hm0 hsb;have aF:Rsz b 2001:=by rw[<-hb];exact qDG (n:=1000) (M.up (by decide)) (halfR_sz.up (by decide))
 have hE:qAV x=(0,12):=by
  unfold qAV qDX;rw[hr];simp only[hN];rw[decide_eq_false (show¬N<=4611686018427387904 by omega)]
  rfl
 have aB:q0+1=N:=by
  rw[<-hN,<-hq0];unfold qCM;rw[hb,hsb];rw[hm0];rw[if_pos ⟨rfl,hm0p⟩]
 have⟨bT,aQ,bq,bQ,a6,be,ae,a9⟩:=hyd8 kx aP hr hN M hb aF hE;have⟨ad,aN,ai,aH⟩:=hyd4 aB hsb hq0 hm0;clear hm0 hq0 hsb aB hE aF hb M hN hr aP kx;go_enter Tryz.func145,Tryz.ntmps145;go_wp2_with (fail);go_at_call 137;refine(qCC (λ_=>True) x r _ _ (Up.any _) aQ.out bq.out).mono ?_;rintro e W1 ⟨v1,rfl,ag,ab⟩;have J:=ab;obtain⟨A1,c1,A2,c2,rfl,-,-⟩:=ab.form;obtain⟨W2,aC,bC,E,-,-⟩:=qBX W1 (.cells #[.int .u32 1] 196) (.cells #[.int .u32 2] 196);have j:=qEG W1 196;rw[aC]at j;have aL:=J.le E;have⟨av,bA,br,aw,R,aM⟩:=hyd6 ag ab J E j aL;clear aL j E J ab ag;go_wp2_with (fail);clear aC;go_at_call 142;refine(qBu (λ_=>True) r halfR _ _ W2 (Up.any _) aM.out R.out (a6.out.up (by decide)) (halfR_sz.up (by decide))).mono ?_;rintro e W3 ⟨v3,rfl,G,ac⟩;rw[be.out]at ac;obtain⟨Bn,dn,Bd,dd,rfl,ap,ao⟩:=ac.form;rw[aN.out];obtain⟨W4,bd,f,kb⟩:=al1 W3 (.cells #[.bool true,.slice Bn (dg (rnum b)).length dn,.slice Bd (dg b.den).length dd] 131);obtain⟨d0,d1,d2,-⟩:=qAJ kb;have v:=ap.le f;have t:=ao.le f;have z:=((av.out.trans aw.out).trans G).trans f;have a8:=ae.out.1;have aU:=ae.out.2;have au:=Nat.ne_of_gt (qAs b);have l:=qDF (λ_=>True) (rnum b) b.den _ _ W4 (Up.any _) v t (by omega) (by omega) au;rw[ai.out,aH.out]at l
 have aG:(dg q0).length <=2001:=by rw[<-ai.out];exact Nat.le_trans (qAU (Nat.div_le_self _ _)) a8
 have⟨bj,bB,b2,b1,bk,aR,bg,bf⟩:=hyd8 G ac ap ao f kb v t;have⟨S,bD,bE,b6,Z,ah⟩:=hyd6 z a8 aU au l aG;clear aG l au aU a8 z t v kb f ao ap ac G;go_wp2_with (fail);clear bd;go_at_call 146;refine Z.out.mono ?_;rintro e W5 ⟨vq,vm,rfl,p,aa,ax⟩;obtain⟨Aq,cq,rfl⟩:=aa.slice;obtain⟨Am,cm,rfl⟩:=ax.slice;have a7:=(p.block _ (gsl aR.out)).trans aR.out;clear d0 d1 d2;obtain⟨d0,d1,d2,-⟩:=qAJ a7;have B:=S.out.trans p;have bh:0<((dg m0).length :Int):=by have:=dg_length_pos.2 hm0p;omega
 have bi:0<(dg m0).length :=dg_length_pos.2 hm0p;have s:=qFV (L:=λ_=>True) (k:= .u32) (V:=W5) (g:=1) (λ_ _=>trivial) (by omega) qGa 196;obtain⟨W6,aD,H⟩:∃W6,W5.alloc (.cells #[.int .u32 1] 196)=W6/\Le W5 W6:=⟨_,rfl,qAB _ _⟩;rw[show((1:Nat):Int)=1 from rfl,aD]at s;have ay:=qIy (λ_=>True) q0 1 _ _ W6 (Up.any _) (aa.le H) s (by have:=ah.out;omega) (by rw[qEU];simp);rw[ad.out]at ay;have⟨bl,b9,b7,ak,T,bo,I,aI⟩:=hyd8 p aa ax a7 B s H ay;clear ay H s B a7 ax aa p;go_wp2_with (fail);clear aD;go_at_call 147;refine aI.out.mono ?_;rintro e W8 ⟨v8,rfl,q,az⟩;obtain⟨A8,c8,rfl⟩:=az.slice;have aS:=((I.out.trans q).block _ (gsl ak.out)).trans ak.out;have C:=T.out.trans (I.out.trans q)
 have bS:(dg N).length <=100000000:=by
  have h1:=qDP q0 1;rw[ad.out]at h1;have h2:=ah.out;have h3:(dg 1).length =1:=by rw[qEU];rfl
  omega
 clear d0 d1 d2 bh bi;have⟨bm,aJ,al,U⟩:=hyd4 q az aS C;clear C aS az q
 -- the number is there: q8, in W8
 obtain⟨F,hF⟩:∃F:Nat,F=4611686018427387904:=⟨_,rfl⟩;have an:(F:Int)=4611686018427387904:=by rw[hF];rfl
 have a5:=qC3 F W8 (by omega);rw[an]at a5;have⟨aO,aA,b0⟩:=hyd3 a5 hF an;clear an hF a5;go_wp2_with (fail);go_at_call 111;refine aO.out.mono ?_;rintro e W9 ⟨v9,rfl,i,m⟩;have Y:NumL (λ_=>True) .u32 W9 v9 F:=ArrL.of_own m (λ_ _=>trivial);obtain⟨A9,c9,rfl⟩:=Y.slice;have a4:=aJ.out.le i;have af:=qBZ (λ_=>True) N F _ _ W9 a4 Y (by omega) (Nat.le_trans (qDK (by have:=aA.out;omega)) (by decide));have aT:=(Below.block i _ (gsl al.out)).trans al.out;have D:=U.out.trans i;have⟨bn,aY,b8,aK,ar,am,X⟩:=hyd7 i m Y a4 af aT D;clear D aT af a4 Y m i;go_wp2_with (fail);go_at_call 148;refine ar.out.mono ?_;rintro e bH ⟨cc,rfl,d,P,Q⟩;have O:=(Below.block d _ (gsl am.out)).trans am.out;have o:=X.out.trans d;have aj:=aK.out.le d;obtain⟨e0,e1,e2,-⟩:=qAJ O
 have aq:cc<=0↔N<=4611686018427387904:=by
  have hF:=aA.out;constructor
  ·intro h
   rcases Int.lt_or_eq_of_le h with h|h
   ·have:=P.1 h;omega
   ·have:=Q.1 h;omega
  ·intro h
   rcases Nat.lt_or_eq_of_le h with h|h
   ·have:=P.2 (by omega);omega
   ·have:=Q.2 (by omega);omega
 have bR:decide (cc<=0)=false:=decide_eq_false (λh=>absurd (aq.1 h) (by omega));have⟨aX,b3,b4,bt,y,bp,b5⟩:=hyd7 d P Q O o aj aq;clear aq aj o O Q P d;go_wp2_with (fail);go_at_call 84;refine(qAx _ _).mono ?_;rintro e bI ⟨rfl,rfl⟩;go_wp2_with (fail);exact⟨rfl,y.out,.inr ⟨by rw[a9.out];decide,by rw[a9.out]⟩⟩
theorem qH9 (x:FracA) (r:Rat) (Bx:Nat) (va:Value) (w:World) (hx:FBox w Bx va x) (hr:x.rat?=some r) (N q0 m0:Nat) (hN:qCM r=N) (hq0:rnum (r+halfR) / (r+halfR).den =q0) (hm0:rnum (r+halfR)%(r+halfR).den =m0) (hfit:4611686018427387904<N) (hsb:rneg (r+halfR)=false):
  Calls Tryz.prog 145 #[.pointer (some ⟨Bx,0,none⟩)] w (qCu x w):=by
 obtain⟨A,c,A',c',rfl,kx,aB⟩:=hx;obtain⟨a0,a1,a2,a3⟩:=qAy kx;have D:=FracA.sz hr;obtain⟨b,hb⟩:∃b,r+halfR=b:=⟨_,rfl⟩;rw[hb]at hq0 hm0 hsb;have aw:Rsz b 2001:=by rw[<-hb];exact qDG (n:=1000) (D.up (by decide)) (halfR_sz.up (by decide))
 have hE:qAV x=(0,12):=by
  unfold qAV qDX;rw[hr];simp only[hN];rw[decide_eq_false (show¬N<=4611686018427387904 by omega)]
  rfl
 have ad:q0=N:=by
  rw[<-hN,<-hq0];unfold qCM;rw[hb,hsb];rw[if_neg (by simp)];rfl
 obtain rfl:N=q0:=ad.symm;have⟨bB,aC,aU,b8,ao,aM,U,aq⟩:=hyd8 kx aB hr hN D hb aw hE;have⟨bh,a9,Y,az⟩:=hyd4 ad hsb hq0 hm0;clear hm0 hq0 hsb ad hE aw hb D hN hr aB kx;go_enter Tryz.func145,Tryz.ntmps145;go_wp2_with (fail);go_at_call 137;refine(qCC (λ_=>True) x r _ _ (Up.any _) aC.out aU.out).mono ?_;rintro e W1 ⟨v1,rfl,X,R⟩;have C:=R;obtain⟨A1,c1,A2,c2,rfl,-,-⟩:=R.form;obtain⟨W2,au,bt,z,-,-⟩:=qBX W1 (.cells #[.int .u32 1] 196) (.cells #[.int .u32 2] 196);have i:=qEG W1 196;rw[au]at i;have a7:=C.le z;have⟨aj,br,aV,ak,I,a8⟩:=hyd6 X R C z i a7;clear a7 i z C R X;go_wp2_with (fail);clear au;go_at_call 142;refine(qBu (λ_=>True) r halfR _ _ W2 (Up.any _) a8.out I.out (ao.out.up (by decide)) (halfR_sz.up (by decide))).mono ?_;rintro e W3 ⟨v3,rfl,B,S⟩;rw[aM.out]at S;obtain⟨Bn,dn,Bd,dd,rfl,af,ae⟩:=S.form;rw[a9.out];obtain⟨W4,aL,f,kb⟩:=al1 W3 (.cells #[.bool false,.slice Bn (dg (rnum b)).length dn,.slice Bd (dg b.den).length dd] 131);obtain⟨d0,d1,d2,-⟩:=qAJ kb;have q:=af.le f;have p:=ae.le f;have t:=((aj.out.trans ak.out).trans B).trans f;have ap:=U.out.1;have aG:=U.out.2;have ai:=Nat.ne_of_gt (qAs b);have k:=qDF (λ_=>True) (rnum b) b.den _ _ W4 (Up.any _) q p (by omega) (by omega) ai
 rw[Y.out,az.out]at k;have ax:(dg N).length <=2001:=by rw[<-Y.out];exact Nat.le_trans (qAU (Nat.div_le_self _ _)) ap
 have⟨aP,bs,bj,bi,aQ,aD,aO,aN⟩:=hyd8 B S af ae f kb q p;have⟨J,bv,bw,bn,P,ay⟩:=hyd6 t ap aG ai k ax;clear ax k ai aG ap t p q kb f ae af S B;go_wp2_with (fail);clear aL;go_at_call 146;refine P.out.mono ?_;rintro e W5 ⟨vq,vm,rfl,o,Q,al⟩;obtain⟨Aq,cq,rfl⟩:=Q.slice;obtain⟨Am,cm,rfl⟩:=al.slice;have T:=(o.block _ (gsl aD.out)).trans aD.out;clear d0 d1 d2;obtain⟨d0,d1,d2,-⟩:=qAJ T;have j:=J.out.trans o;have bA:(dg N).length <=100000000:=by have:=ay.out;omega
 have a4:=Q;have aE:=T;have v:=j;have⟨aR,bq,bo,bu,aI,a5,aa,L⟩:=hyd8 o Q al T j a4 aE v;clear v aE a4 j T al Q o
 -- the number is there: q8, in W5
 obtain⟨F,hF⟩:∃F:Nat,F=4611686018427387904:=⟨_,rfl⟩;have ac:(F:Int)=4611686018427387904:=by rw[hF];rfl
 have an:=qC3 F W5 (by omega);rw[ac]at an;have⟨aA,ar,bg⟩:=hyd3 an hF ac;clear ac hF an;go_wp2_with (fail);go_at_call 111;refine aA.out.mono ?_;rintro e W9 ⟨v9,rfl,g,l⟩;have O:NumL (λ_=>True) .u32 W9 v9 F:=ArrL.of_own l (λ_ _=>trivial);obtain⟨A9,c9,rfl⟩:=O.slice;have am:=a5.out.le g;have V:=qBZ (λ_=>True) N F _ _ W9 am O (by omega) (Nat.le_trans (qDK (by have:=ar.out;omega)) (by decide));have aF:=(Below.block g _ (gsl aa.out)).trans aa.out;have y:=L.out.trans g;have⟨aS,aK,bp,a6,ah,ab,M⟩:=hyd7 g l O am V aF y;clear y aF V am O l g;go_wp2_with (fail);go_at_call 148;refine ah.out.mono ?_;rintro e b0 ⟨cc,rfl,d,G,H⟩;have E:=(Below.block d _ (gsl ab.out)).trans ab.out;have m:=M.out.trans d;have Z:=a6.out.le d;obtain⟨e0,e1,e2,-⟩:=qAJ E
 have ag:cc<=0↔N<=4611686018427387904:=by
  have hF:=ar.out;constructor
  ·intro h
   rcases Int.lt_or_eq_of_le h with h|h
   ·have:=G.1 h;omega
   ·have:=H.1 h;omega
  ·intro h
   rcases Nat.lt_or_eq_of_le h with h|h
   ·have:=G.2 (by omega);omega
   ·have:=H.2 (by omega);omega
 have b9:decide (cc<=0)=false:=decide_eq_false (λh=>absurd (ag.1 h) (by omega));have⟨aJ,bk,bl,aX,s,aT,bm⟩:=hyd7 d G H E m Z ag;clear ag Z m E H G d;go_wp2_with (fail);go_at_call 84;refine(qAx _ _).mono ?_;rintro e b1 ⟨rfl,rfl⟩;go_wp2_with (fail);exact⟨rfl,s.out,.inr ⟨by rw[aq.out];decide,by rw[aq.out]⟩⟩
theorem qHa (x:FracA) (r:Rat) (Bx:Nat) (va:Value) (w:World) (hx:FBox w Bx va x) (hr:x.rat?=some r) (N q0 m0:Nat) (hN:qCM r=N) (hq0:rnum (r+halfR) / (r+halfR).den =q0) (hm0:rnum (r+halfR)%(r+halfR).den =m0) (hfit:4611686018427387904<N) (hsb:rneg (r+halfR)=true) (hm0p:m0=0):
  Calls Tryz.prog 145 #[.pointer (some ⟨Bx,0,none⟩)] w (qCu x w):=by
 obtain⟨A,c,A',c',rfl,kx,aC⟩:=hx;obtain⟨a0,a1,a2,a3⟩:=qAy kx;have D:=FracA.sz hr;obtain⟨b,hb⟩:∃b,r+halfR=b:=⟨_,rfl⟩;rw[hb]at hq0 hm0 hsb;have aw:Rsz b 2001:=by rw[<-hb];exact qDG (n:=1000) (D.up (by decide)) (halfR_sz.up (by decide))
 have hE:qAV x=(0,12):=by
  unfold qAV qDX;rw[hr];simp only[hN];rw[decide_eq_false (show¬N<=4611686018427387904 by omega)]
  rfl
 have ad:q0=N:=by
  rw[<-hN,<-hq0];unfold qCM;rw[hb,hsb];rw[hm0,if_neg (by rw[hm0p];simp)];rfl
 obtain rfl:N=q0:=ad.symm;have⟨bC,aD,aV,b9,ao,aN,U,aq⟩:=hyd8 kx aC hr hN D hb aw hE;have⟨bi,aA,Y,a4⟩:=hyd4 ad hsb hq0 hm0;clear hm0 hq0 hsb ad hE aw hb D hN hr aC kx;go_enter Tryz.func145,Tryz.ntmps145;go_wp2_with (fail);go_at_call 137;refine(qCC (λ_=>True) x r _ _ (Up.any _) aD.out aV.out).mono ?_;rintro e W1 ⟨v1,rfl,X,R⟩;have C:=R;obtain⟨A1,c1,A2,c2,rfl,-,-⟩:=R.form;obtain⟨W2,au,bu,z,-,-⟩:=qBX W1 (.cells #[.int .u32 1] 196) (.cells #[.int .u32 2] 196);have i:=qEG W1 196;rw[au]at i;have a8:=C.le z;have⟨aj,bs,aW,ak,I,a9⟩:=hyd6 X R C z i a8;clear a8 i z C R X;go_wp2_with (fail);clear au;go_at_call 142;refine(qBu (λ_=>True) r halfR _ _ W2 (Up.any _) a9.out I.out (ao.out.up (by decide)) (halfR_sz.up (by decide))).mono ?_;rintro e W3 ⟨v3,rfl,B,S⟩;rw[aN.out]at S;obtain⟨Bn,dn,Bd,dd,rfl,af,ae⟩:=S.form;rw[aA.out];obtain⟨W4,aM,f,kb⟩:=al1 W3 (.cells #[.bool true,.slice Bn (dg (rnum b)).length dn,.slice Bd (dg b.den).length dd] 131);obtain⟨d0,d1,d2,-⟩:=qAJ kb;have q:=af.le f;have p:=ae.le f;have t:=((aj.out.trans ak.out).trans B).trans f;have ap:=U.out.1;have aH:=U.out.2;have ai:=Nat.ne_of_gt (qAs b);have k:=qDF (λ_=>True) (rnum b) b.den _ _ W4 (Up.any _) q p (by omega) (by omega) ai
 rw[Y.out,a4.out]at k;have ay:(dg N).length <=2001:=by rw[<-Y.out];exact Nat.le_trans (qAU (Nat.div_le_self _ _)) ap
 have⟨aQ,bt,bk,bj,aR,aE,aP,aO⟩:=hyd8 B S af ae f kb q p;have⟨J,bw,bx,bo,P,az⟩:=hyd6 t ap aH ai k ay;clear ay k ai aH ap t p q kb f ae af S B;go_wp2_with (fail);clear aM;go_at_call 146;refine P.out.mono ?_;rintro e W5 ⟨vq,vm,rfl,o,Q,al⟩;obtain⟨Aq,cq,rfl⟩:=Q.slice;obtain⟨Am,cm,rfl⟩:=al.slice;have T:=(o.block _ (gsl aE.out)).trans aE.out;clear d0 d1 d2;obtain⟨d0,d1,d2,-⟩:=qAJ T;have j:=J.out.trans o;have bB:(dg N).length <=100000000:=by have:=az.out;omega
 have a5:=Q;have aF:=T;have v:=j;have ax:(dg m0).length =0:=by rw[hm0p,qBB];rfl
 rw[ax];clear ax;have⟨aS,br,bp,bv,aJ,a6,aa,L⟩:=hyd8 o Q al T j a5 aF v;clear v aF a5 j T al Q o
 -- the number is there: q8, in W5
 obtain⟨F,hF⟩:∃F:Nat,F=4611686018427387904:=⟨_,rfl⟩;have ac:(F:Int)=4611686018427387904:=by rw[hF];rfl
 have an:=qC3 F W5 (by omega);rw[ac]at an;have⟨aB,ar,bh⟩:=hyd3 an hF ac;clear ac hF an;go_wp2_with (fail);go_at_call 111;refine aB.out.mono ?_;rintro e W9 ⟨v9,rfl,g,l⟩;have O:NumL (λ_=>True) .u32 W9 v9 F:=ArrL.of_own l (λ_ _=>trivial);obtain⟨A9,c9,rfl⟩:=O.slice;have am:=a6.out.le g;have V:=qBZ (λ_=>True) N F _ _ W9 am O (by omega) (Nat.le_trans (qDK (by have:=ar.out;omega)) (by decide));have aG:=(Below.block g _ (gsl aa.out)).trans aa.out;have y:=L.out.trans g;have⟨aT,aL,bq,a7,ah,ab,M⟩:=hyd7 g l O am V aG y;clear y aG V am O l g;go_wp2_with (fail);go_at_call 148;refine ah.out.mono ?_;rintro e b1 ⟨cc,rfl,d,G,H⟩;have E:=(Below.block d _ (gsl ab.out)).trans ab.out;have m:=M.out.trans d;have Z:=a7.out.le d;obtain⟨e0,e1,e2,-⟩:=qAJ E
 have ag:cc<=0↔N<=4611686018427387904:=by
  have hF:=ar.out;constructor
  ·intro h
   rcases Int.lt_or_eq_of_le h with h|h
   ·have:=G.1 h;omega
   ·have:=H.1 h;omega
  ·intro h
   rcases Nat.lt_or_eq_of_le h with h|h
   ·have:=G.2 (by omega);omega
   ·have:=H.2 (by omega);omega
 have bA:decide (cc<=0)=false:=decide_eq_false (λh=>absurd (ag.1 h) (by omega));have⟨aK,bl,bm,aY,s,aU,bn⟩:=hyd7 d G H E m Z ag;clear ag Z m E H G d;go_wp2_with (fail);go_at_call 84;refine(qAx _ _).mono ?_;rintro e b2 ⟨rfl,rfl⟩;go_wp2_with (fail);exact⟨rfl,s.out,.inr ⟨by rw[aq.out];decide,by rw[aq.out]⟩⟩
theorem qHb (x:FracA) (r:Rat) (Bx:Nat) (va:Value) (w:World) (hx:FBox w Bx va x) (hr:x.rat?=some r) (N q0 m0:Nat) (hN:qCM r=N) (hq0:rnum (r+halfR) / (r+halfR).den =q0) (hm0:rnum (r+halfR)%(r+halfR).den =m0) (hfit:N<=4611686018427387904) (hsb:rneg (r+halfR)=true) (hm0p:m0≠0):
  Calls Tryz.prog 145 #[.pointer (some ⟨Bx,0,none⟩)] w (qCu x w):=by
 obtain⟨A,c,A',c',rfl,kx,bo⟩:=hx;obtain⟨a0,a1,a2,a3⟩:=qAy kx;have U:=FracA.sz hr;obtain⟨b,hb⟩:∃b,r+halfR=b:=⟨_,rfl⟩;rw[hb]at hq0 hm0 hsb;have bc:Rsz b 2001:=by rw[<-hb];exact qDG (n:=1000) (U.up (by decide)) (halfR_sz.up (by decide))
 have hE:qAV x=(sg true N,0):=by
  unfold qAV qDX;rw[hr];simp only[hN];rw[decide_eq_true hfit];simp only[if_true];unfold qKR;rw[hN,if_pos hfit,hb,hsb]
 have aY:q0+1=N:=by
  rw[<-hN,<-hq0];unfold qCM;rw[hb,hsb];rw[hm0];rw[if_pos ⟨rfl,hm0p⟩]
 have⟨cM,bp,bL,cB,aL,b8,aq,aU⟩:=hyd8 kx bo hr hN U hb bc hE;have⟨ao,bm,ax,bg⟩:=hyd4 aY hsb hq0 hm0;clear hm0 hq0 hsb aY hE bc hb U hN hr bo kx;refine(callsIn_wide (n:=5)).1 ?_;refine callsIn_of_wp_marks Tryz.func145 rfl trivial ?_ rfl;simp only[Tryz.ntmps145,List.size_toArray,List.length_cons,List.length_nil,Nat.reduceAdd,Nat.reduceSub,Array.replicate_succ,Array.replicate_zero,List.push_toArray,List.append_toArray,List.nil_append,List.cons_append];refine wpIn_wide.2 ?_;go_wp2_with (fail);go_at_call 137;refine(qCC (λ_=>True) x r _ _ (Up.any _) bp.out bL.out).mono ?_;rintro e W1 ⟨v1,rfl,av,al⟩;have T:=al;obtain⟨A1,c1,A2,c2,rfl,-,-⟩:=al.form;obtain⟨W2,ba,cl,O,-,-⟩:=qBX W1 (.cells #[.int .u32 1] 196) (.cells #[.int .u32 2] 196);have q:=qEG W1 196;rw[ba]at q;have bk:=T.le O;have⟨aD,cj,bM,aE,ad,bl⟩:=hyd6 av al T O q bk;clear bk q O T al av;go_wp2_with (fail);clear ba;go_at_call 142;refine(qBu (λ_=>True) r halfR _ _ W2 (Up.any _) bl.out ad.out (aL.out.up (by decide)) (halfR_sz.up (by decide))).mono ?_;rintro e W3 ⟨v3,rfl,P,am⟩;rw[b8.out]at am;obtain⟨Bn,dn,Bd,dd,rfl,a8,a7⟩:=am.form;rw[bm.out];obtain⟨W4,b7,o,kb⟩:=al1 W3 (.cells #[.bool true,.slice Bn (dg (rnum b)).length dn,.slice Bd (dg b.den).length dd] 131);obtain⟨d0,d1,d2,-⟩:=qAJ kb;have G:=a8.le o
 have E:=a7.le o;have H:=((aD.out.trans aE.out).trans P).trans o;have aO:=aq.out.1;have bt:=aq.out.2;have aB:=Nat.ne_of_gt (qAs b);have s:=qDF (λ_=>True) (rnum b) b.den _ _ W4 (Up.any _) G E (by omega) (by omega) aB;rw[ax.out,bg.out]at s;have bf:(dg q0).length <=2001:=by rw[<-ax.out];exact Nat.le_trans (qAU (Nat.div_le_self _ _)) aO
 have⟨bE,ck,ca,bZ,bF,bq,bA,b9⟩:=hyd8 P am a8 a7 o kb G E;have⟨ae,cp,cr,cf,aj,aw⟩:=hyd6 H aO bt aB s bf;clear bf s aB bt aO H E G kb o a7 a8 am P;go_wp2_with (fail);clear b7;go_at_call 146;refine aj.out.mono ?_;rintro e W5 ⟨vq,vm,rfl,y,ak,aF⟩;obtain⟨Aq,cq,rfl⟩:=ak.slice;obtain⟨Am,cm,rfl⟩:=aF.slice;have aM:=(y.block _ (gsl bq.out)).trans bq.out;clear d0 d1 d2;obtain⟨d0,d1,d2,-⟩:=qAJ aM;have I:=ae.out.trans y;have bC:0<((dg m0).length :Int):=by have:=dg_length_pos.2 hm0p;omega
 have bD:0<(dg m0).length :=dg_length_pos.2 hm0p;have C:=qFV (L:=λ_=>True) (k:= .u32) (V:=W5) (g:=1) (λ_ _=>trivial) (by omega) qGa 196;obtain⟨W6,bb,Q⟩:∃W6,W5.alloc (.cells #[.int .u32 1] 196)=W6/\Le W5 W6:=⟨_,rfl,qAB _ _⟩;rw[show((1:Nat):Int)=1 from rfl,bb]at C;have aG:=qIy (λ_=>True) q0 1 _ _ W6 (Up.any _) (ak.le Q) C (by have:=aw.out;omega) (by rw[qEU];simp);rw[ao.out]at aG;have⟨bG,ci,cg,az,af,bK,R,bh⟩:=hyd8 y ak aF aM I C Q aG;clear aG Q C I aM aF ak y;go_wp2_with (fail);clear bb;go_at_call 147;refine bh.out.mono ?_;rintro e W8 ⟨v8,rfl,B,aI⟩;obtain⟨A8,c8,rfl⟩:=aI.slice;have br:=((R.out.trans B).block _ (gsl az.out)).trans az.out;have J:=af.out.trans (R.out.trans B)
 have cG:(dg N).length <=100000000:=by
  have h1:=qDP q0 1;rw[ao.out]at h1;have h2:=aw.out;have h3:(dg 1).length =1:=by rw[qEU];rfl
  omega
 clear d0 d1 d2 bC bD;have⟨bH,bi,a4,ag⟩:=hyd4 B aI br J;clear J br aI B
 -- the number is there: q8, in W8
 obtain⟨F,hF⟩:∃F:Nat,F=4611686018427387904:=⟨_,rfl⟩;have a6:(F:Int)=4611686018427387904:=by rw[hF];rfl
 have aK:=qC3 F W8 (by omega);rw[a6]at aK;have⟨bn,aV,bY⟩:=hyd3 aK hF a6;clear a6 hF aK;go_wp2_with (fail);go_at_call 111;refine bn.out.mono ?_;rintro e W9 ⟨v9,rfl,p,t⟩;have ai:NumL (λ_=>True) .u32 W9 v9 F:=ArrL.of_own t (λ_ _=>trivial);obtain⟨A9,c9,rfl⟩:=ai.slice;have aJ:=bi.out.le p;have ar:=qBZ (λ_=>True) N F _ _ W9 aJ ai (by omega) (Nat.le_trans (qDK (by have:=aV.out;omega)) (by decide));have bs:=(Below.block p _ (gsl a4.out)).trans a4.out;have M:=ag.out.trans p;have⟨bI,bz,ch,bj,aA,a5,ah⟩:=hyd7 p t ai aJ ar bs M;clear M bs ar aJ ai t p;go_wp2_with (fail);go_at_call 148;refine aA.out.mono ?_;rintro e i ⟨cc,rfl,d,ab,ac⟩;have X:=(Below.block d _ (gsl a5.out)).trans a5.out;have v:=ah.out.trans d;have ay:=bj.out.le d;obtain⟨e0,e1,e2,-⟩:=qAJ X
 have a9:cc<=0↔N<=4611686018427387904:=by
  have hF:=aV.out;constructor
  ·intro h
   rcases Int.lt_or_eq_of_le h with h|h
   ·have:=ab.1 h;omega
   ·have:=ac.1 h;omega
  ·intro h
   rcases Nat.lt_or_eq_of_le h with h|h
   ·have:=ab.2 (by omega);omega
   ·have:=ac.2 (by omega);omega
 have cD:cc<=0:=a9.2 hfit;have⟨bw,cb,cd,Y,j,aH,ce⟩:=hyd7 d ab ac X v ay a9;clear a9 ay v X ac ab d;go_wp2_with (fail);go_at_call 84;refine(qBF _ _).mono ?_;rintro e cv ⟨rfl,rfl⟩;go_wp2_with (first | (go_at_call 149;((with_reducible refine(qCi _ _ _ _).mono ?_);rintro e w' ⟨rfl,rfl⟩)));obtain⟨W0,aZ,cJ,Z,h0,h1⟩:=qBX i (.cells #[.int .i64 0] 3) (.cells #[.slice A8 (dg N).length c8] 129);rw[aZ];clear aZ;have f:=qBt (dg N) _ i W0 (i.heap.size+1) i.heap.size aH.out.arr (by omega) (by omega) (Nat.le_refl _) Z (qAC h1);have be:=(gsl Y.out);have S:=j.out.trans Z;have cK:=j.out.size;refine(wpIn_wide (n:=5)).1 ?_;refine wpIn_rangeFunc_ownG rfl (by omega) (gf:=187) (lb:=#[.pointer (some ⟨i.heap.size+1,0,none⟩)]) rfl trivial (enters_of Tryz.func187 (by kernel_rfl) rfl)
  f Kept.trans (Kept.put (by omega) (by simp;omega)) (Below.refl _ _) (λ_=>rfl)
  (NearI W0 i.heap.size i.heap.size 3 [i.heap.size+1] N) (λ_ _ _=>False) (NearI.from _ _ _ _ _ _ _ (Nat.le_refl _) (by omega) (by omega) (by simp;omega)) (λ_ _ _ _ _ hs _ _=>hs)
  ⟨Kept.refl _ _ _,Nat.le_refl _,0,h0,λ_=>by simp[nv]⟩ ?_ ?_ ?_ ?_ ?_
 rotate_left
 ·intro l x9 W K hK;dsimp only[qFC];gi_wp2;exact hK
 ·rintro l bQ x9 W ⟨k1,k2,z,g5,g6⟩ bJ;have cL:=x9.2;obtain⟨m,hm⟩:∃m,(dg N).length - 1 - x9.1=m:=⟨_,rfl⟩;obtain⟨g,hg⟩:∃g,(dg N)[m]?.getD 0=g:=⟨_,rfl⟩
  have cF:g<1000000000:=by
   rw[<-hg,<-qA3,<-List.getD_eq_getElem?_getD];exact qCg (qAj N) m
  have cR:=qAC g5;have fR:=fz0 g5 0;have au:=λaa=>NearI.step (N0:=W0.heap.size) (x:=x9) hfit k1 k2 g5 g6 m g hm hg (Nat.le_refl _) (by simp) aa;rw[hm,hg];clear f k1 k2 g6 h0 h1;have⟨cE,cH,aC,cA⟩:=hyd4 hg hm au g5;clear g5 au hm hg;gi_wp2;exact aC.out _
 ·rintro D ys W hD rfl ⟨k1,k2,z,g5,g6⟩ aS;have hz:=g6 (qB7 _);rw[List.length_finRange,Nat.sub_self,List.drop_zero,qAf]at hz;subst hz;have cR:=qAC g5;have aN:=((Below.trans Z k1.1).block _ be).trans Y.out;have aW:Le w W:=Below.trans S (k1.1.mono (by omega));clear e0 e1 e2;obtain⟨e0,e1,e2,-⟩:=qAJ aN;have cC:(N:Int)<=4611686018427387904:=by omega
  clear f k1 h0 h1 g6 g5 Z S;have⟨aT,aX,co⟩:=hyd3 aS aW aN;clear aN aW aS;go_wp2;refine qAI w.heap.size [{target:= .collected D,args:=#[]}] _ ⟨⟨D,rfl,by omega,aT.out,by simp⟩,trivial⟩ λw9 hb bB=>?_;refine⟨_,results_tmp rfl _ _ _,Below.trans aX.out hb,.inl ⟨by rw[aU.out],?_⟩⟩;rw[aU.out]
  rfl
 ·rintro D c5 bQ W _ _ h _;exact h.elim
theorem qHc (x:FracA) (r:Rat) (Bx:Nat) (va:Value) (w:World) (hx:FBox w Bx va x) (hr:x.rat?=some r) (N q0 m0:Nat) (hN:qCM r=N) (hq0:rnum (r+halfR) / (r+halfR).den =q0) (hm0:rnum (r+halfR)%(r+halfR).den =m0) (hfit:N<=4611686018427387904) (hsb:rneg (r+halfR)=false):
  Calls Tryz.prog 145 #[.pointer (some ⟨Bx,0,none⟩)] w (qCu x w):=by
 obtain⟨A,c,A',c',rfl,kx,ba⟩:=hx;obtain⟨a0,a1,a2,a3⟩:=qAy kx;have O:=FracA.sz hr;obtain⟨b,hb⟩:∃b,r+halfR=b:=⟨_,rfl⟩;rw[hb]at hq0 hm0 hsb;have aN:Rsz b 2001:=by rw[<-hb];exact qDG (n:=1000) (O.up (by decide)) (halfR_sz.up (by decide))
 have hE:qAV x=(sg false N,0):=by
  unfold qAV qDX;rw[hr];simp only[hN];rw[decide_eq_true hfit];simp only[if_true];unfold qKR;rw[hN,if_pos hfit,hb,hsb]
 have ar:q0=N:=by
  rw[<-hN,<-hq0];unfold qCM;rw[hb,hsb];rw[if_neg (by simp)];rfl
 obtain rfl:N=q0:=ar.symm;have⟨c4,bb,b0,cr,aA,bq,ai,aH⟩:=hyd8 kx ba hr hN O hb aN hE;have⟨bH,aY,am,aS⟩:=hyd4 ar hsb hq0 hm0;clear hm0 hq0 hsb ar hE aN hb O hN hr ba kx;refine(callsIn_wide (n:=5)).1 ?_;refine callsIn_of_wp_marks Tryz.func145 rfl trivial ?_ rfl;simp only[Tryz.ntmps145,List.size_toArray,List.length_cons,List.length_nil,Nat.reduceAdd,Nat.reduceSub,Array.replicate_succ,Array.replicate_zero,List.push_toArray,List.append_toArray,List.nil_append,List.cons_append];refine wpIn_wide.2 ?_;go_wp2_with (fail);go_at_call 137;refine(qCC (λ_=>True) x r _ _ (Up.any _) bb.out b0.out).mono ?_;rintro e W1 ⟨v1,rfl,al,ad⟩;have M:=ad;obtain⟨A1,c1,A2,c2,rfl,-,-⟩:=ad.form;obtain⟨W2,aM,bT,I,-,-⟩:=qBX W1 (.cells #[.int .u32 1] 196) (.cells #[.int .u32 2] 196);have p:=qEG W1 196;rw[aM]at p;have aW:=M.le I;have⟨a4,bR,b1,a5,U,aX⟩:=hyd6 al ad M I p aW;clear aW p I M ad al;go_wp2_with (fail);clear aM;go_at_call 142;refine(qBu (λ_=>True) r halfR _ _ W2 (Up.any _) aX.out U.out (aA.out.up (by decide)) (halfR_sz.up (by decide))).mono ?_;rintro e W3 ⟨v3,rfl,J,ae⟩;rw[bq.out]at ae;obtain⟨Bn,dn,Bd,dd,rfl,av,au⟩:=ae.form;rw[aY.out];obtain⟨W4,bp,k,kb⟩:=al1 W3 (.cells #[.bool false,.slice Bn (dg (rnum b)).length dn,.slice Bd (dg b.den).length dd] 131);obtain⟨d0,d1,d2,-⟩:=qAJ kb
 have C:=av.le k;have B:=au.le k;have E:=((a4.out.trans a5.out).trans J).trans k;have aC:=ai.out.1;have bf:=ai.out.2;have ay:=Nat.ne_of_gt (qAs b);have s:=qDF (λ_=>True) (rnum b) b.den _ _ W4 (Up.any _) C B (by omega) (by omega) ay;rw[am.out,aS.out]at s;have aQ:(dg N).length <=2001:=by rw[<-am.out];exact Nat.le_trans (qAU (Nat.div_le_self _ _)) aC
 have⟨bu,bS,bJ,bI,bv,bc,bs,br⟩:=hyd8 J ae av au k kb C B;have⟨V,bX,bY,bN,ab,aR⟩:=hyd6 E aC bf ay s aQ;clear aQ s ay bf aC E B C kb k au av ae J;go_wp2_with (fail);clear bp;go_at_call 146;refine ab.out.mono ?_;rintro e W5 ⟨vq,vm,rfl,y,ac,a6⟩;obtain⟨Aq,cq,rfl⟩:=ac.slice;obtain⟨Am,cm,rfl⟩:=a6.slice;have af:=(y.block _ (gsl bc.out)).trans bc.out;clear d0 d1 d2;obtain⟨d0,d1,d2,-⟩:=qAJ af;have q:=V.out.trans y;have cw:(dg N).length <=100000000:=by have:=aR.out;omega
 have aT:=ac;have bd:=af;have G:=q;have⟨bw,bQ,bO,bV,bh,aU,ao,X⟩:=hyd8 y ac a6 af q aT bd G;clear G bd aT q af a6 ac y
 -- the number is there: q8, in W5
 obtain⟨F,hF⟩:∃F:Nat,F=4611686018427387904:=⟨_,rfl⟩;have aq:(F:Int)=4611686018427387904:=by rw[hF];rfl
 have a9:=qC3 F W5 (by omega);rw[aq]at a9;have⟨aZ,aI,bG⟩:=hyd3 a9 hF aq;clear aq hF a9;go_wp2_with (fail);go_at_call 111;refine aZ.out.mono ?_;rintro e W9 ⟨v9,rfl,o,t⟩;have Z:NumL (λ_=>True) .u32 W9 v9 F:=ArrL.of_own t (λ_ _=>trivial);obtain⟨A9,c9,rfl⟩:=Z.slice;have a8:=aU.out.le o;have aj:=qBZ (λ_=>True) N F _ _ W9 a8 Z (by omega) (Nat.le_trans (qDK (by have:=aI.out;omega)) (by decide));have be:=(Below.block o _ (gsl ao.out)).trans ao.out;have H:=X.out.trans o;have⟨bx,bk,bP,aV,ax,ap,Y⟩:=hyd7 o t Z a8 aj be H;clear H be aj a8 Z t o;go_wp2_with (fail);go_at_call 148;refine ax.out.mono ?_;rintro e i ⟨cc,rfl,d,S,T⟩;have P:=(Below.block d _ (gsl ap.out)).trans ap.out;have v:=Y.out.trans d;have an:=aV.out.le d;obtain⟨e0,e1,e2,-⟩:=qAJ P
 have aw:cc<=0↔N<=4611686018427387904:=by
  have hF:=aI.out;constructor
  ·intro h
   rcases Int.lt_or_eq_of_le h with h|h
   ·have:=S.1 h;omega
   ·have:=T.1 h;omega
  ·intro h
   rcases Nat.lt_or_eq_of_le h with h|h
   ·have:=S.2 (by omega);omega
   ·have:=T.2 (by omega);omega
 have ct:cc<=0:=aw.2 hfit;have⟨bi,bK,bL,Q,j,a7,bM⟩:=hyd7 d S T P v an aw;clear aw an v P T S d;go_wp2_with (fail);go_at_call 84;refine(qBF _ _).mono ?_;rintro e cd ⟨rfl,rfl⟩;go_wp2_with (first | (go_at_call 149;((with_reducible refine(qCi _ _ _ _).mono ?_);rintro e w' ⟨rfl,rfl⟩)));obtain⟨W0,aL,cz,R,h0,h1⟩:=qBX i (.cells #[.int .i64 0] 3) (.cells #[.slice Aq (dg N).length cq] 129);rw[aL];clear aL;have f:=qBt (dg N) _ i W0 (i.heap.size+1) i.heap.size a7.out.arr (by omega) (by omega) (Nat.le_refl _) R (qAC h1);have aP:=(gsl Q.out);have L:=j.out.trans R;have c0:=j.out.size;refine(wpIn_wide (n:=5)).1 ?_;refine wpIn_rangeFunc_ownG rfl (by omega) (gf:=187) (lb:=#[.pointer (some ⟨i.heap.size+1,0,none⟩)]) rfl trivial (enters_of Tryz.func187 (by kernel_rfl) rfl)
  f Kept.trans (Kept.put (by omega) (by simp;omega)) (Below.refl _ _) (λ_=>rfl)
  (NearI W0 i.heap.size i.heap.size 3 [i.heap.size+1] N) (λ_ _ _=>False) (NearI.from _ _ _ _ _ _ _ (Nat.le_refl _) (by omega) (by omega) (by simp;omega)) (λ_ _ _ _ _ hs _ _=>hs)
  ⟨Kept.refl _ _ _,Nat.le_refl _,0,h0,λ_=>by simp[nv]⟩ ?_ ?_ ?_ ?_ ?_
 rotate_left
 ·intro l x9 W K hK;dsimp only[qFC];gi_wp2;exact hK
 ·rintro l b5 x9 W ⟨k1,k2,z,g5,g6⟩ bz;have c3:=x9.2;obtain⟨m,hm⟩:∃m,(dg N).length - 1 - x9.1=m:=⟨_,rfl⟩;obtain⟨g,hg⟩:∃g,(dg N)[m]?.getD 0=g:=⟨_,rfl⟩
  have cv:g<1000000000:=by
   rw[<-hg,<-qA3,<-List.getD_eq_getElem?_getD];exact qCg (qAj N) m
  have cR:=qAC g5;have fR:=fz0 g5 0;have ak:=λaa=>NearI.step (N0:=W0.heap.size) (x:=x9) hfit k1 k2 g5 g6 m g hm hg (Nat.le_refl _) (by simp) aa;rw[hm,hg];clear f k1 k2 g6 h0 h1;have⟨cu,cx,az,cp⟩:=hyd4 hg hm ak g5;clear g5 ak hm hg;gi_wp2;exact az.out _
 ·rintro D ys W hD rfl ⟨k1,k2,z,g5,g6⟩ aF;have hz:=g6 (qB7 _);rw[List.length_finRange,Nat.sub_self,List.drop_zero,qAf]at hz;subst hz;have cR:=qAC g5;have aB:=((Below.trans R k1.1).block _ aP).trans Q.out;have aJ:Le w W:=Below.trans L (k1.1.mono (by omega));clear e0 e1 e2;obtain⟨e0,e1,e2,-⟩:=qAJ aB;have cs:(N:Int)<=4611686018427387904:=by omega
  clear f k1 h0 h1 g6 g5 R L;have⟨aG,aK,bW⟩:=hyd3 aF aJ aB;clear aB aJ aF;go_wp2;refine qAI w.heap.size [{target:= .collected D,args:=#[]}] _ ⟨⟨D,rfl,by omega,aG.out,by simp⟩,trivial⟩ λw9 hb bt=>?_;refine⟨_,results_tmp rfl _ _ _,Below.trans aK.out hb,.inl ⟨by rw[aH.out],?_⟩⟩;rw[aH.out]
  rfl
 ·rintro D ck b5 W _ _ h _;exact h.elim
theorem qHd (x:FracA) (r:Rat) (Bx:Nat) (va:Value) (w:World) (hx:FBox w Bx va x) (hr:x.rat?=some r) (N q0 m0:Nat) (hN:qCM r=N) (hq0:rnum (r+halfR) / (r+halfR).den =q0) (hm0:rnum (r+halfR)%(r+halfR).den =m0) (hfit:N<=4611686018427387904) (hsb:rneg (r+halfR)=true) (hm0p:m0=0):
  Calls Tryz.prog 145 #[.pointer (some ⟨Bx,0,none⟩)] w (qCu x w):=by
 obtain⟨A,c,A',c',rfl,kx,bb⟩:=hx;obtain⟨a0,a1,a2,a3⟩:=qAy kx;have O:=FracA.sz hr;obtain⟨b,hb⟩:∃b,r+halfR=b:=⟨_,rfl⟩;rw[hb]at hq0 hm0 hsb;have aN:Rsz b 2001:=by rw[<-hb];exact qDG (n:=1000) (O.up (by decide)) (halfR_sz.up (by decide))
 have hE:qAV x=(sg true N,0):=by
  unfold qAV qDX;rw[hr];simp only[hN];rw[decide_eq_true hfit];simp only[if_true];unfold qKR;rw[hN,if_pos hfit,hb,hsb]
 have ar:q0=N:=by
  rw[<-hN,<-hq0];unfold qCM;rw[hb,hsb];rw[hm0,if_neg (by rw[hm0p];simp)];rfl
 obtain rfl:N=q0:=ar.symm;have⟨c5,bc,b1,cs,aA,br,ai,aH⟩:=hyd8 kx bb hr hN O hb aN hE;have⟨bI,aZ,am,aT⟩:=hyd4 ar hsb hq0 hm0;clear hm0 hq0 hsb ar hE aN hb O hN hr bb kx;refine(callsIn_wide (n:=5)).1 ?_;refine callsIn_of_wp_marks Tryz.func145 rfl trivial ?_ rfl;simp only[Tryz.ntmps145,List.size_toArray,List.length_cons,List.length_nil,Nat.reduceAdd,Nat.reduceSub,Array.replicate_succ,Array.replicate_zero,List.push_toArray,List.append_toArray,List.nil_append,List.cons_append];refine wpIn_wide.2 ?_;go_wp2_with (fail);go_at_call 137;refine(qCC (λ_=>True) x r _ _ (Up.any _) bc.out b1.out).mono ?_;rintro e W1 ⟨v1,rfl,al,ad⟩;have M:=ad;obtain⟨A1,c1,A2,c2,rfl,-,-⟩:=ad.form;obtain⟨W2,aM,bU,I,-,-⟩:=qBX W1 (.cells #[.int .u32 1] 196) (.cells #[.int .u32 2] 196);have p:=qEG W1 196;rw[aM]at p;have aX:=M.le I;have⟨a4,bS,b2,a5,U,aY⟩:=hyd6 al ad M I p aX;clear aX p I M ad al;go_wp2_with (fail);clear aM;go_at_call 142;refine(qBu (λ_=>True) r halfR _ _ W2 (Up.any _) aY.out U.out (aA.out.up (by decide)) (halfR_sz.up (by decide))).mono ?_;rintro e W3 ⟨v3,rfl,J,ae⟩;rw[br.out]at ae;obtain⟨Bn,dn,Bd,dd,rfl,av,au⟩:=ae.form;rw[aZ.out];obtain⟨W4,bq,k,kb⟩:=al1 W3 (.cells #[.bool true,.slice Bn (dg (rnum b)).length dn,.slice Bd (dg b.den).length dd] 131);obtain⟨d0,d1,d2,-⟩:=qAJ kb
 have C:=av.le k;have B:=au.le k;have E:=((a4.out.trans a5.out).trans J).trans k;have aC:=ai.out.1;have bg:=ai.out.2;have ay:=Nat.ne_of_gt (qAs b);have s:=qDF (λ_=>True) (rnum b) b.den _ _ W4 (Up.any _) C B (by omega) (by omega) ay;rw[am.out,aT.out]at s;have aR:(dg N).length <=2001:=by rw[<-am.out];exact Nat.le_trans (qAU (Nat.div_le_self _ _)) aC
 have⟨bv,bT,bK,bJ,bw,bd,bt,bs⟩:=hyd8 J ae av au k kb C B;have⟨V,bY,bZ,bO,ab,aS⟩:=hyd6 E aC bg ay s aR;clear aR s ay bg aC E B C kb k au av ae J;go_wp2_with (fail);clear bq;go_at_call 146;refine ab.out.mono ?_;rintro e W5 ⟨vq,vm,rfl,y,ac,a6⟩;obtain⟨Aq,cq,rfl⟩:=ac.slice;obtain⟨Am,cm,rfl⟩:=a6.slice;have af:=(y.block _ (gsl bd.out)).trans bd.out;clear d0 d1 d2;obtain⟨d0,d1,d2,-⟩:=qAJ af;have q:=V.out.trans y;have cx:(dg N).length <=100000000:=by have:=aS.out;omega
 have aU:=ac;have be:=af;have G:=q;have aQ:(dg m0).length =0:=by rw[hm0p,qBB];rfl
 rw[aQ];clear aQ;have⟨bx,bR,bP,bW,bi,aV,ao,X⟩:=hyd8 y ac a6 af q aU be G;clear G be aU q af a6 ac y
 -- the number is there: q8, in W5
 obtain⟨F,hF⟩:∃F:Nat,F=4611686018427387904:=⟨_,rfl⟩;have aq:(F:Int)=4611686018427387904:=by rw[hF];rfl
 have a9:=qC3 F W5 (by omega);rw[aq]at a9;have⟨ba,aI,bH⟩:=hyd3 a9 hF aq;clear aq hF a9;go_wp2_with (fail);go_at_call 111;refine ba.out.mono ?_;rintro e W9 ⟨v9,rfl,o,t⟩;have Z:NumL (λ_=>True) .u32 W9 v9 F:=ArrL.of_own t (λ_ _=>trivial);obtain⟨A9,c9,rfl⟩:=Z.slice;have a8:=aV.out.le o;have aj:=qBZ (λ_=>True) N F _ _ W9 a8 Z (by omega) (Nat.le_trans (qDK (by have:=aI.out;omega)) (by decide));have bf:=(Below.block o _ (gsl ao.out)).trans ao.out;have H:=X.out.trans o;have⟨bz,bl,bQ,aW,ax,ap,Y⟩:=hyd7 o t Z a8 aj bf H;clear H bf aj a8 Z t o;go_wp2_with (fail);go_at_call 148;refine ax.out.mono ?_;rintro e i ⟨cc,rfl,d,S,T⟩;have P:=(Below.block d _ (gsl ap.out)).trans ap.out;have v:=Y.out.trans d;have an:=aW.out.le d;obtain⟨e0,e1,e2,-⟩:=qAJ P
 have aw:cc<=0↔N<=4611686018427387904:=by
  have hF:=aI.out;constructor
  ·intro h
   rcases Int.lt_or_eq_of_le h with h|h
   ·have:=S.1 h;omega
   ·have:=T.1 h;omega
  ·intro h
   rcases Nat.lt_or_eq_of_le h with h|h
   ·have:=S.2 (by omega);omega
   ·have:=T.2 (by omega);omega
 have cu:cc<=0:=aw.2 hfit;have⟨bj,bL,bM,Q,j,a7,bN⟩:=hyd7 d S T P v an aw;clear aw an v P T S d;go_wp2_with (fail);go_at_call 84;refine(qBF _ _).mono ?_;rintro e ce ⟨rfl,rfl⟩;go_wp2_with (first | (go_at_call 149;((with_reducible refine(qCi _ _ _ _).mono ?_);rintro e w' ⟨rfl,rfl⟩)));obtain⟨W0,aL,c0,R,h0,h1⟩:=qBX i (.cells #[.int .i64 0] 3) (.cells #[.slice Aq (dg N).length cq] 129);rw[aL];clear aL;have f:=qBt (dg N) _ i W0 (i.heap.size+1) i.heap.size a7.out.arr (by omega) (by omega) (Nat.le_refl _) R (qAC h1);have aP:=(gsl Q.out);have L:=j.out.trans R;have c3:=j.out.size;refine(wpIn_wide (n:=5)).1 ?_;refine wpIn_rangeFunc_ownG rfl (by omega) (gf:=187) (lb:=#[.pointer (some ⟨i.heap.size+1,0,none⟩)]) rfl trivial (enters_of Tryz.func187 (by kernel_rfl) rfl)
  f Kept.trans (Kept.put (by omega) (by simp;omega)) (Below.refl _ _) (λ_=>rfl)
  (NearI W0 i.heap.size i.heap.size 3 [i.heap.size+1] N) (λ_ _ _=>False) (NearI.from _ _ _ _ _ _ _ (Nat.le_refl _) (by omega) (by omega) (by simp;omega)) (λ_ _ _ _ _ hs _ _=>hs)
  ⟨Kept.refl _ _ _,Nat.le_refl _,0,h0,λ_=>by simp[nv]⟩ ?_ ?_ ?_ ?_ ?_
 rotate_left
 ·intro l x9 W K hK;dsimp only[qFC];gi_wp2;exact hK
 ·rintro l b6 x9 W ⟨k1,k2,z,g5,g6⟩ b0;have c4:=x9.2;obtain⟨m,hm⟩:∃m,(dg N).length - 1 - x9.1=m:=⟨_,rfl⟩;obtain⟨g,hg⟩:∃g,(dg N)[m]?.getD 0=g:=⟨_,rfl⟩
  have cw:g<1000000000:=by
   rw[<-hg,<-qA3,<-List.getD_eq_getElem?_getD];exact qCg (qAj N) m
  have cR:=qAC g5;have fR:=fz0 g5 0;have ak:=λaa=>NearI.step (N0:=W0.heap.size) (x:=x9) hfit k1 k2 g5 g6 m g hm hg (Nat.le_refl _) (by simp) aa;rw[hm,hg];clear f k1 k2 g6 h0 h1;have⟨cv,cy,az,cr⟩:=hyd4 hg hm ak g5;clear g5 ak hm hg;gi_wp2;exact az.out _
 ·rintro D ys W hD rfl ⟨k1,k2,z,g5,g6⟩ aF;have hz:=g6 (qB7 _);rw[List.length_finRange,Nat.sub_self,List.drop_zero,qAf]at hz;subst hz;have cR:=qAC g5;have aB:=((Below.trans R k1.1).block _ aP).trans Q.out;have aJ:Le w W:=Below.trans L (k1.1.mono (by omega));clear e0 e1 e2;obtain⟨e0,e1,e2,-⟩:=qAJ aB;have ct:(N:Int)<=4611686018427387904:=by omega
  clear f k1 h0 h1 g6 g5 R L;have⟨aG,aK,bX⟩:=hyd3 aF aJ aB;clear aB aJ aF;go_wp2;refine qAI w.heap.size [{target:= .collected D,args:=#[]}] _ ⟨⟨D,rfl,by omega,aG.out,by simp⟩,trivial⟩ λw9 hb bu=>?_;refine⟨_,results_tmp rfl _ _ _,Below.trans aK.out hb,.inl ⟨by rw[aH.out],?_⟩⟩;rw[aH.out]
  rfl
 ·rintro D cl b6 W _ _ h _;exact h.elim
end Go.Proofs.YtabfaobakmjiaaaGreat
namespace Go.Proofs.YtabfaobakmjiaaaGreat
set_option maxRecDepth 100000
set_option maxHeartbeats 1000000
open Go.RowKit Go.Shelf
set_option linter.unusedVariables false
set_option linter.unusedSimpArgs false
theorem qRo (z:Int) (hz0: -9223372036854775808<=z) (hz1:z<=9223372036854775807):Rsz (z:Rat) 3:=
 ⟨qDK (N:=z.natAbs) (by omega),by rw[show(z:Rat).den =1 from rfl,qEU];simp⟩
theorem qI1 (L:Nat->Prop) (z:Int) (w:World) (hL:Up w L) (hz0: -9223372036854775808<=z) (hz1:z<=9223372036854775807):
  Calls Tryz.prog 22 #[.int .i64 z] w λe w'=>∃v,e= .returned v/\Le w w'/\FracL L w' v (z:Rat):=by
 have B:=(qRo z hz0 hz1).up (show 3<=40 by decide);have⟨H,C⟩:=hyd2 hL B;clear B hL;go_enter Tryz.func22,Tryz.ntmps22;go_wp2_with (fail);go_at_call 56;refine(qEW (λ_=>True) z _ (Up.any _) hz0 hz1).mono ?_;rintro e Z ⟨v1,rfl,f,D⟩;obtain⟨g,A⟩:=qC9 f;have r:=D;obtain⟨A1,c1,A2,c2,rfl,-,-⟩:=D.form;have k:=H.out.le g;have j:=qGc L (λ_=>True) (z:Rat) _ Z k r C.out;have⟨J,ae,U,h,R,o,q⟩:=hyd7 f D r A k g j;clear j g k A r D f;go_wp2_with (fail);go_at_call 55;refine q.out.mono ?_;rintro e W2 ⟨v2,rfl,c,X⟩;have t:=X;obtain⟨N,P,O,Q,rfl,-,-⟩:=X;have b:=(c.block _ (gsl h.out)).trans h.out;have i:=λu0 u1 u2 u3=>qJD (u0:=u0) (u1:=u1) (u2:=u2) (u3:=u3) (o.out.trans c) (Nat.le_refl _);have x:=λu0 u1 u2 u3=>qAy (qGb (u0:=u0) (u1:=u1) (u2:=u2) (u3:=u3) b);have d:=λu0 u1 u2 u3=>FracL.box4 (u0:=u0) (u1:=u1) (u2:=u2) (u3:=u3) t b;obtain⟨z0,z1,z2,z3⟩:=qAy b;have⟨g0,g1,g2,g3⟩:=frz4 b;obtain⟨G,s⟩:∃G,rneg (z:Rat)=G:=⟨_,rfl⟩;obtain⟨E,m⟩:∃E,(dg (rnum (z:Rat))).length =E:=⟨_,rfl⟩;obtain⟨F,n⟩:∃F,(dg (z:Rat).den).length =F:=⟨_,rfl⟩;rw[s,m,n]at d ⊢;have⟨M,Y,I,p,y,l,V,S⟩:=hyd8 c t b i x d s m;have T:=hyd1 n
 clear n m s d x i b t c;go_wp2;obtain⟨d0,d1,d2,d3⟩:=y.out (.bool G) (.slice N E P) (.bool false) (.slice O F Q);exact bodyPost_ret (v:= .agg #[.bool G,.slice N E P,.bool false,.slice O F Q]) (by simp[results,Tryz.results22,go_sem,d0,d1,d2,d3]) rfl ⟨_,rfl,p.out _ _ _ _,l.out _ _ _ _⟩
theorem qMN (x:FracA) (Bx:Nat) (va:Value) (w:World) (hx:FBox w Bx va x):Calls Tryz.prog 145 #[.pointer (some ⟨Bx,0,none⟩)] w (qCu x w):=by
 cases hr:x.rat? with
 | none=>exact qH7 x Bx va w hx hr
 | some r=>
  by_cases b:qCM r<=4611686018427387904
  ·by_cases c:rneg (r+halfR)=true
   ·by_cases d:rnum (r+halfR)%(r+halfR).den =0
    ·exact qHd x r Bx va w hx hr _ _ _ rfl rfl rfl b c d
    ·exact qHb x r Bx va w hx hr _ _ _ rfl rfl rfl b c d
   ·exact qHc x r Bx va w hx hr _ _ _ rfl rfl rfl b (by simpa using c)
  ·have b:=Nat.lt_of_not_le b
   by_cases c:rneg (r+halfR)=true
   ·by_cases d:rnum (r+halfR)%(r+halfR).den =0
    ·exact qHa x r Bx va w hx hr _ _ _ rfl rfl rfl b c d
    ·exact qH8 x r Bx va w hx hr _ _ _ rfl rfl rfl b c d
   ·exact qH9 x r Bx va w hx hr _ _ _ rfl rfl rfl b (by simpa using c)
theorem qPL {x:FracA} (h:(qAV x).2≠0):(qAV x).1=0:=by
 unfold qAV at*
 split at h
 ·split at h
  ·exact absurd rfl h
  ·rename_i h2;rw[if_neg h2]
 ·rfl
theorem qI2 (x:FracA) (v:Value) (w:World) (h:IsFracA (λ_=>True) w v x):
  Calls Tryz.prog 91 #[v] w λe w'=>e= .returned (.tuple #[.int .i64 (qAV x).1,.int .i64 (qAV x).2])/\Le w w':=by
 have O:∀(fn:Fn) (first cap:Array Value) (w:World),(Instr.makeFunc fn first cap).run Tryz.prog w= .ok (.func fn first cap) w:=λ_ _ _ _=>rfl;have n:=h;obtain⟨A,c,J,M,rfl,H,I⟩:=h;obtain⟨p,y,i,t⟩:=al1 w (.cells #[.bool x.sn,.slice A x.gn.length c,.bool x.sd,.slice J x.gd.length M] 76);have B:=(gsl t);have s:=λW (o:Le p W)=>qMN x w.heap.size _ W (FBox.mk n (i.trans o) ((o.block _ B).trans t))
 have f:Calls Tryz.prog 144 #[.func (.func 145) #[] #[.pointer (some ⟨w.heap.size,0,none⟩)]] p λe w'=>e= .returned (.tuple #[.int .i64 (qAV x).1,.int .i64 (qAV x).2])/\Le p w':=by
  by_cases r:(qAV x).2=0
  ·rw[r];refine(qKF _ _ (qAV x).1 p qFe λW o=>(s W o).mono λe L h=>?_).mono λe w' h=>h;obtain⟨b,⟨-,rfl⟩| ⟨g,-⟩⟩:=h
   ·exact⟨rfl,b⟩
   ·exact absurd r g
  ·rw[qPL r];refine(qJC _ _ (qAV x).2 p qFe λW o=>(s W o).mono λe L h=>?_).mono λe w' h=>h;obtain⟨b,⟨g,-⟩| ⟨-,rfl⟩⟩:=h
   ·exact absurd g r
   ·exact⟨rfl,b⟩
 obtain⟨F,k⟩:∃F,(qAV x).1=F:=⟨_,rfl⟩;obtain⟨G,l⟩:∃G,(qAV x).2=G:=⟨_,rfl⟩;rw[k,l]at f ⊢;have⟨E,Q,R,q,P,m,C,D⟩:=hyd8 n H I i t f k l;have N:=hyd1 s;clear s l k f t i I H n;go_enter Tryz.func91,Tryz.ntmps91;go_wp2_with (fail);clear y;go_at_call 144;refine m.out.mono ?_;rintro e S ⟨rfl,d⟩;have b:=q.out.trans d;have⟨z,j⟩:=hyd2 d b;clear b d;go_wp2;go_ret2;exact⟨rfl,j.out⟩
end Go.Proofs.YtabfaobakmjiaaaGreat
