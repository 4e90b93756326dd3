/- Whole polynomials: left, its walk. (The region between --@ARM and --@END is printed by gen_poly.py.) -/
import Derived.Test.YtcoajjdhkhgfdaaPk28
namespace Go.Proofs.Ytcoajjdhkhgfdaa
set_option maxRecDepth 100000
set_option maxHeartbeats 2000000
open Go.RowKit Go.Shelf
set_option linter.unusedVariables false
set_option linter.unusedSimpArgs false
structure LeftSt (w:World) (g n c:Nat) (vb:Value) (b:List Int) (bt bs:Nat) (ot os:Obj) (vT vS:Value) (T S:Int) (l:List Int) (W:World):Prop where
 below:Below w.heap.size w W
 row:RowE intK 84 w.heap.size W (.slice (some ⟨g,0,none⟩) n c) l
 b:RowE intK 84 0 W vb b
 kt:W.heap[bt]? =some ot
 ks:W.heap[bs]? =some os
 t:IntL W vT T
 s:IntL W vS S
theorem LeftSt.le {w:World} {g n c:Nat} {vb:Value} {b:List Int} {bt bs:Nat} {ot os:Obj} {vT vS:Value} {T S:Int} {l:List Int} {W V:World} (h:LeftSt w g n c vb b bt bs ot os vT vS T S l W) (hb:Le W V):LeftSt w g n c vb b bt bs ot os vT vS T S l V:=
 ⟨h.below.trans (hb.mono h.below.size),h.row.le hb,h.b.le hb,(hb.block _ (gsl h.kt)).trans h.kt,(hb.block _ (gsl h.ks)).trans h.ks,h.t.le hb,h.s.le hb⟩
theorem LeftSt.store {w:World} {g n c:Nat} {vb:Value} {b:List Int} {bt bs:Nat} {ot os:Obj} {vT vS:Value} {T S:Int} {l:List Int} {W:World} (h:LeftSt w g n c vb b bt bs ot os vT vS T S l W) (hg:w.heap.size<=g) (hB:∀q,vb.ownBlock=some q->q≠g) (ht:bt≠g) (hs:bs≠g) {j:Nat} (hj:j<l.length)
  {A:Option Addr} {a d:Nat} {z:Int} {sg:Bool} (hz:decide (z<0)=sg) (hr:NumL (λ_=>True) .u32 W (.slice A a d) z.natAbs):
  LeftSt w g n c vb b bt bs ot os vT vS T S (l.set j z) ((W.setCell ⟨g,j*2,none⟩ (.bool sg)).setCell ⟨g,j*2+1,none⟩ (.slice A a d))∧
   ∀q,q≠g->((W.setCell ⟨g,j*2,none⟩ (.bool sg)).setCell ⟨g,j*2+1,none⟩ (.slice A a d)).heap[q]? =W.heap[q]? :=by
 subst hz;have f:=RowE.store h.row (i:=j) hj (cs:=[.bool (decide (z<0)),.slice A a d]) (y:=z) ⟨_,_,_,rfl,hr⟩;have k:∀q,q≠g->(W.setCells g (j*2) [.bool (decide (z<0)),.slice A a d]).heap[q]? =W.heap[q]? :=λq hq=>qBH hq _ _ _;exact⟨⟨qAu hg [.bool (decide (z<0)),.slice A a d] (j*2) _ _ h.below,f.1,h.b.keep f.2 λq hq=>k q (hB q hq),(k _ ht).trans h.kt,(k _ hs).trans h.ks,h.t.kp f.2,h.s.kp f.2⟩,k⟩
theorem qIH:qA8 Try.prog 53:=λ_ _=>by kernel_rfl
theorem qKT (S:Int) (A:Option Addr) (n c:Nat) (sg:Bool) (w:World) (hsg:decide (S<0)=sg) (hS:NumL (λ_=>True) .u32 w (.slice A n c) S.natAbs) (z:Int) (h1:Isz S 100000000) (h2:Isz z 100000000):
  ElOk Try.prog intK intK (λc=> .ok (S*c)) 53 #[.agg #[.bool sg,.slice A n c]] #[] w z:=by
 subst hsg;rintro o ⟨d,k,g,rfl,j⟩;refine(qCf S z _ _ w ⟨A,n,c,rfl,hS⟩ ⟨d,k,g,rfl,j⟩ h1 h2).mono ?_;rintro e m ⟨p,rfl,b,f,l,h,rfl,i⟩;exact⟨b,.inl ⟨_,_,rfl,rfl,f,l,h,rfl,i⟩⟩
theorem qLQ {a b:List Int} {sa sb:Bool} (ha:decide (qAC a<0)=sa) (hb:decide (qAC b<0)=sb) (h0:qAC a≠0):decide (topT a b<0)=(sa != sb):=by
 subst ha hb;unfold topT
 by_cases d:qAC a<0<;>by_cases c:qAC b<0
 ·rw[if_pos c,decide_eq_true d,decide_eq_true c,decide_eq_false (by omega)];rfl
 ·rw[if_neg c,decide_eq_true d,decide_eq_false c];rfl
 ·rw[if_pos c,decide_eq_false d,decide_eq_true c,decide_eq_true (by omega)];rfl
 ·rw[if_neg c,decide_eq_false d,decide_eq_false c];rfl
theorem qLR (a b:List Int):(topT a b).natAbs =(qAC a).natAbs :=by
 unfold topT
 split
 ·rw[Int.natAbs_neg]
 ·rfl
theorem IntL.num {w:World} {s:Bool} {A:Option Addr} {n c:Nat} {z:Int} (h:IntL w (.agg #[.bool s,.slice A n c]) z):NumL (λ_=>True) .u32 w (.slice A n c) z.natAbs/\decide (z<0)=s:=by
 obtain⟨f,i,g,e,h⟩:=h;injection e with e;have b:=congrArg (λa=>a[0]!) e;have d:=congrArg (λa=>a[1]!) e;change Value.bool s=Value.bool _ at b;change Value.slice A n c=Value.slice f i g at d;injection b with b;rw[d];exact⟨h,b.symm⟩
theorem qMQ (w:World) (o:Obj):∃V,(w.alloc o).drew =V/\Below w.heap.size w V/\V.heap[w.heap.size]? =some o:=⟨_,rfl,(alc1 _ _).drew,heap_alloc_new _ _⟩
theorem qCu {b l:List Int} (h:¬b.length<=l.length):∀f,qB4 b f l=l
 | 0=>rfl
 | f+1=>by unfold qB4;rw[if_neg h]
theorem qFv {b l:List Int} {f:Nat} (h:b.length<=l.length) (hb:b.length≠0) (hf:l.length<=f):∃g,f=g+1/\qB4 b f l=qB4 b g (qBh l b):=by
 obtain⟨g,rfl⟩:∃g,f=g+1:=⟨f - 1,by omega⟩;exact⟨g,rfl,if_pos h⟩
theorem qIw (va vb:Value) (a b:List Int) (M:Nat) (w:World) (ha:RowE intK 84 0 w va a) (hb:RowE intK 84 0 w vb b) (hla:a.length<=1000) (hlb:b.length<=1000) (hb0:b.length≠0) (hta:TopI a) (htb:TopI b)
  (hsa:∀x∈a,Isz x M) (hsb:∀x∈b,Isz x M) (hM:M+(a.length+1 - b.length)*(M+1)<=4000000):
  Calls Try.prog 40 #[va,vb] w λe w'=>∃v',e= .returned v'/\Le w w'/\RowE intK 84 0 w' v' (qAY a b):=by
 obtain⟨Aa,ca,rfl⟩:=ha.slice;obtain⟨na,bQ⟩:∃n,a.length=n:=⟨_,rfl⟩;obtain⟨nb,bR⟩:∃n,b.length=n:=⟨_,rfl⟩;rw[bQ]at ha hla hM ⊢;have z:=hb;obtain⟨lb,bq⟩:∃l,nb=l+1:=⟨nb - 1,by omega⟩;have cZ:lb<b.length:=by omega
 obtain⟨gb,cb,rfl,-,aX,-,-,cs,H,hc⟩:=hb.at cZ;rw[bR]at hb z hlb hM hb0 ⊢;have bG:b[lb]=qAC b:=by unfold qAC;rw[List.getD_eq_getElem?_getD,show b.length - 1=lb by omega,List.getElem?_eq_getElem cZ];rfl
 have ft:qAC b≠0:=htb (by omega);rw[bG]at H;obtain⟨A1,n1,c1,rfl,bH⟩:=H;obtain⟨sb,aK⟩:∃s,decide (qAC b<0)=s:=⟨_,rfl⟩;rw[aK]at hc;have x0:w.cell? ⟨gb,lb*2,none⟩=some (.bool sb):=hc 0 _ rfl;have x1:w.cell? ⟨gb,lb*2+1,none⟩=some (.slice A1 n1 c1):=hc 1 _ rfl;obtain⟨W1,dJ,a7,k1⟩:=qMQ w (.cells #[.bool false,.slice A1 n1 c1] 84);obtain⟨bs,dL⟩:∃b,w.heap.size=b:=⟨_,rfl⟩;rw[dL]at k1;have hS:sizS b=((qAC b).natAbs :Int):=rfl;have cG:NumL (λ_=>True) .u32 W1 (.slice A1 n1 c1) (sizS b).natAbs :=by rw[hS,Int.natAbs_natCast];exact bH.le a7
 have cD:decide (sizS b<0)=false:=by rw[hS];exact decide_eq_false (by omega)
 have j1:(nb:Int) - 1=(lb:Int):=by omega
 have j2:(lb:Int)<(nb:Int):=by omega
 have j3:(0:Int)<=(lb:Int):=by omega
 have cL:=ha.le a7;have ak:=z.le a7;have cB:=qIv hsb;have⟨fq,fs,a9,dp,eP,dl,au,cS⟩:=hyd8 ha hb z hta htb hsa hsb hc;have⟨ez,ex,a8,ea,cH,bl,cM⟩:=hyd7 bH bG a7 k1 cG cD cL;clear cL cD cG k1 a7 bG bH hc hsb hsa htb hta z hb ha;have⟨bo,a4,bw,C,bW,dP⟩:=hyd6 ak cB bQ bR aK bq;clear bq aK bR bQ cB ak;go_enter Try.func40,Try.ntmps40;go_wp2_with (fail);have jw:IntKind.i64.wrap (lb:Int)=(lb:Int):=IntWalk.i64_in _ (by omega);have jn:(lb:Int).toNat =lb:=rfl;have bE:=alc1 w (.cells #[.bool false,.slice none 0 0] 84);have aW:(w.alloc (.cells #[.bool false,.slice none 0 0] 84)).heap[w.heap.size]? =some (.cells #[.bool false,.slice none 0 0] 84):=heap_alloc_new _ _;have ej:=bcl bE aX x0;have ek:=bcl bE aX x1;have ep:=cell_of_row _ w.heap.size 0 _ _ _ aW;have er:=cell_of_row _ w.heap.size 1 _ _ _ aW;have⟨dC,dD⟩:=frz2 aW;have cO:=alc1 w (.cells #[.bool false,.slice A1 n1 c1] 84);have cN:(w.alloc (.cells #[.bool false,.slice A1 n1 c1] 84)).heap[w.heap.size]? =some (.cells #[.bool false,.slice A1 n1 c1] 84):=heap_alloc_new _ _;have el:=bcl a8.out aX x0;have em:=bcl a8.out aX x1;clear bE aW cO cN;go_region;clear dJ ej ek ep er dC dD el em x0 x1;have fo:M<=4000000:=by omega
 have cE:IntL W1 (.agg #[.bool false,.slice A1 n1 c1]) (sizS b):=⟨A1,n1,c1,by rw[bl.out],cH.out⟩;have cF:=hyd1 cE;clear cE;go_wp2_with (fail)
 go_loopw [0] (λs wr=>∃(A:Option Addr) (c n f:Nat) (l:List Int),s= .slice A n c/\n<=na/\Hid (l.length=n)/\Hid (Below w.heap.size w wr)/\Hid (RowE intK 84 0 wr (.slice A n c) l)/\Hid (RowE intK 84 0 wr (.slice (some ⟨gb,0,none⟩) nb cb) b)/\Hid (wr.heap[bs]? =some (.cells #[.bool false,.slice A1 n1 c1] 84))/\Hid (IntL wr (.agg #[.bool false,.slice A1 n1 c1]) (sizS b))∧
  Hid (n<=f/\qB4 b f l=qAY a b)/\Hid (TopI l)/\Hid (∀x∈l,Isz x (M+(na - n)*(M+1)))) (λs _=>qBa s)
 case atStart=>exact⟨Aa,ca,na,na,a,rfl,Nat.le_refl _,bw,a8,cM,bo,ea,cF,Lib.hid ⟨Nat.le_refl _,by unfold qAY;rw[bw.out]⟩,dp,Lib.hid (λx hx=>(dl.out x hx).up (by omega))⟩
 case round=>
  obtain⟨A,c,n,f,l,rfl,hn,ag,ax,S,bc,aD,cd,bJ,cf,bg⟩:=hrel
  by_cases aY:nb<=n
  ·obtain⟨t,ht⟩:∃t,n=t+1:=⟨n - 1,by omega⟩;have dq:t<l.length:=by rw[ag.out];omega
   obtain⟨gl,cl,o,-,fy,-,-,cs,H,hc⟩:=S.out.at dq;rw[ag.out]at o;injection o with o e2 e3;subst o e3;clear e2;have bM:l[t]=qAC l:=by unfold qAC;rw[List.getD_eq_getElem?_getD,ag.out,show n - 1=t by omega,List.getElem?_eq_getElem dq];rfl
   have bN:qAC l≠0:=cf.out (by rw[ag.out];omega);rw[bM]at H;obtain⟨A6,n6,c6,rfl,ba⟩:=H;obtain⟨A7,c7,e7⟩:=ba.slice
   have f1:0<n6:=by
    injection e7 with e71 e72 e73;rw[e72,dg_length_pos];omega
   clear e7;have eE:(0:Int)<(n6:Int):=by omega
   obtain⟨sa,ar⟩:∃s,decide (qAC l<0)=s:=⟨_,rfl⟩;rw[ar]at hc;have x0:wr.cell? ⟨gl,t*2,none⟩=some (.bool sa):=hc 0 _ rfl;have x1:wr.cell? ⟨gl,t*2+1,none⟩=some (.slice A6 n6 c6):=hc 1 _ rfl;obtain⟨L,bD,z,k2⟩:=enew wr (.cells #[.bool sa,.slice A6 n6 c6] 84);obtain⟨O,dM⟩:∃b,wr.heap.size=b:=⟨_,rfl⟩;rw[dM]at k2;have t0:L.cell? ⟨O,0,none⟩=some (.bool sa):=cell_of_row L O 0 _ _ _ k2;have t1:L.cell? ⟨O,1,none⟩=some (.slice A6 n6 c6):=cell_of_row L O 1 _ _ _ k2;have f0:=fz0 k2 0;have j4:(n:Int) - 1=(t:Int):=by omega
   have j5:(t:Int)<(n:Int):=by omega
   have j6:(0:Int)<=(t:Int):=by omega
   have j7:(nb:Int)<=(n:Int):=by omega
   obtain⟨st,dV⟩:∃s,(!sa==sb)=s:=⟨_,rfl⟩;obtain⟨V,hV⟩:∃V,L.setCell ⟨O,0,none⟩ (.bool st)=V:=⟨_,rfl⟩;have cp:=nib2 k2 (qAO _) (qAF _ _ _);have ay:Kp .u32 L V:=by rw[<-hV];exact(Kp.refl L).set cp (qAO _)
   have aG:∀q,q≠O->V.heap[q]? =L.heap[q]? :=λq hq=>by rw[<-hV];exact Below.heap_setCell _ ⟨O,0,none⟩ _ q hq
   have a6:Below w.heap.size w L:=ax.out.trans (z.mono ax.out.size);have dY:w.heap.size<=O:=by have:=ax.out.size;omega
   have cQ:Below w.heap.size w V:=by rw[<-hV];exact Below.setCell a6 (p:=⟨O,0,none⟩) dY _
   have am:=(S.out.le z).keep ay λq hq=>aG q (by have:=(S.out.nib hq).2.1;omega);have bx:=(bc.out.le z).keep ay λq hq=>aG q (by have:=(bc.out.nib hq).2.1;omega);have ey:bs<O:=by have:=gsl aD.out;omega
   have aq:=(aG bs (by omega)).trans ((z.block _ (gsl aD.out)).trans aD.out);have aO:=(cd.out.le z).kp ay;have bp:V.heap[O]? =some (.cells #[.bool st,.slice A6 n6 c6] 84):=by rw[<-hV];exact qC2 k2 0 _
   have dd:l.length=n:=ag.out
   have b1:IntL V (.agg #[.bool st,.slice A6 n6 c6]) (topT l b):=by
    refine⟨A6,n6,c6,?_,?_⟩
    ·rw[qLQ ar bW.out bN,<-dV]
     cases sa<;>cases sb<;>rfl
    ·rw[qLR];exact(ba.le z).kp ay
   have s0:V.cell? ⟨bs,0,none⟩=some (.bool false):=cell_of_row V bs 0 _ _ _ aq;have s1:V.cell? ⟨bs,1,none⟩=some (.slice A1 n1 c1):=cell_of_row V bs 1 _ _ _ aq
   have dT:M+(na - n)*(M+1)+M+1<=4000000:=by
    obtain⟨d,hd⟩:∃d,na - n=d:=⟨_,rfl⟩;have h9:d+1<=na+1 - nb:=by omega
    have h8:=Nat.mul_le_mul_right (M+1) h9;rw[Nat.add_mul]at h8;rw[hd];omega
   obtain⟨ml,bO⟩:∃ml,M+(na - n)*(M+1)=ml:=⟨_,rfl⟩;rw[bO]at dT bg;have aM:=bg.out
   have bb:=qDo (λc=> .ok (sizS b*c)) 53 #[.agg #[.bool false,.slice A1 n1 c1]] #[] _ l V am.seq (by omega) qIH λW hW x hx=>
    qKT (sizS b) A1 n1 c1 false W bl.out (aO.num.1.le hW) x (a4.out.up (by omega)) ((aM x hx).up (by omega))
   have da:mapE (λc:Int=>(.ok (sizS b*c):Except Int Int)) l= .ok (l.map λc:Int=>sizS b*c):=qC6 (g:=λc:Int=>sizS b*c) λx _=>rfl;rw[da]at bb;clear da;obtain⟨fr,cT⟩:∃d,n - nb=d:=⟨_,rfl⟩;have dc:(l.map λc:Int=>sizS b*c)=qAk (sizS b) (topT l b) fr l b 0:=rfl;rw[dc]at bb;clear dc;have j8:(n:Int) - (nb:Int)=(fr:Int):=by omega
   have⟨eA,cR,bV,dk,cY,dm,aB,eQ⟩:=hyd8 ag ax S bc aD cd bJ cf;have⟨eN,cS⟩:=hyd2 bg hc;clear hc bg cf bJ cd aD bc S ax ag;have⟨eB,eD,eC,dU,a9,eb,f3,e9⟩:=hyd8 bM bN ba ar z k2 ht ay;have⟨eF,dK⟩:=hyd2 aG a6;clear a6 aG ay ht k2 z ar ba bN bM;have⟨ad,bd,al,X,aP,Y,aS,bu⟩:=hyd8 cQ am bx aq aO bp b1 bb;have⟨eX,aN⟩:=hyd2 cp aM;clear aM cp bb b1 bp aO aq bx am cQ;have⟨db,af,r⟩:=hyd3 bO cT dd;clear dd cT bO;go_wp2_with (fail);clear x0 x1 t0 t1 f0 hV bD;go_at_call 41;refine bu.out.mono ?_;intro e W4 hE;obtain⟨v5,rfl,E,az⟩:=hE.ok;obtain⟨A5,c5,rfl⟩:=az.slice;have G:(qAk (sizS b) (topT l b) fr l b 0).length =n:=by rw[qCg];exact r.out
   rw[G]at az ⊢;obtain⟨g,fi,o,fx,fw,-,-,-⟩:=az.at (j:=0) (by rw[G];omega);rw[G]at o;injection o with o e2 e3;subst o e3;clear e2;have dN:w.heap.size<=g:=by have:=ad.out.size;omega
   have cW:bs≠g:=by have:=gsl X.out;omega
   have cX:O≠g:=by have:=gsl Y.out;omega
   have cU:∀q,(Value.slice (some ⟨gb,0,none⟩) nb cb).ownBlock =some q->q≠g:=λq hq=>by have:=(al.out.nib hq).2.1;omega
   have bz:LeftSt w g n c5 (.slice (some ⟨gb,0,none⟩) nb cb) b O bs (.cells #[.bool st,.slice A6 n6 c6] 84) (.cells #[.bool false,.slice A1 n1 c1] 84) (.agg #[.bool st,.slice A6 n6 c6]) (.agg #[.bool false,.slice A1 n1 c1]) (topT l b) (sizS b) (qAk (sizS b) (topT l b) fr l b 0) W4:=
    ⟨ad.out.trans (E.mono ad.out.size),az.base ad.out.size,al.out.le E,(E.block _ (gsl Y.out)).trans Y.out,(E.block _ (gsl X.out)).trans X.out,aS.out.le E,aP.out.le E⟩
   have⟨fn,dQ,eG,d8,bZ,cV⟩:=hyd6 hE E az G bz cU;clear cU bz G az E hE;clear bd al X aP Y aS ad bu bV dk cY dm cR;go_wp2_with (fail);rename World=>wz
   go_loopw [59] (λi wr=>∃k:Nat,i= .int .i64 (k:Int)/\k<=nb/\Hid (LeftSt w g n c5 (.slice (some ⟨gb,0,none⟩) nb cb) b O bs (.cells #[.bool st,.slice A6 n6 c6] 84) (.cells #[.bool false,.slice A1 n1 c1] 84) (.agg #[.bool st,.slice A6 n6 c6]) (.agg #[.bool false,.slice A1 n1 c1]) (topT l b) (sizS b) (qAk (sizS b) (topT l b) fr l b k) wr)) (λi _=>nb - (intOf i).toNat)
   case atStart=>exact⟨0,rfl,Nat.zero_le _,bZ⟩
   case round=>
    obtain⟨k,rfl,hk,I⟩:=hrel
    by_cases dO:k<nb
    ·have bL:k<b.length:=by rw[C.out];exact dO
     obtain⟨gx,cx,o,-,fz,-,-,cs,H,hc⟩:=I.out.b.at bL;rw[C.out]at o;injection o with o e2 e3;injection o with o;injection o with o;subst o e3;clear e2;have aL:=au.out _ (List.getElem_mem bL);have bi:b.getD k 0=b[k]:=by rw[List.getD_eq_getElem?_getD,List.getElem?_eq_getElem bL];rfl
     generalize b[k]=y9 at H bi aL;obtain⟨A2,n2,c2,rfl,ck⟩:=H;obtain⟨s2,be⟩:∃s,decide (y9<0)=s:=⟨_,rfl⟩;rw[be]at hc;have q0:wr.cell? ⟨gb,k*2,none⟩=some (.bool s2):=hc 0 _ rfl;have q1:wr.cell? ⟨gb,k*2+1,none⟩=some (.slice A2 n2 c2):=hc 1 _ rfl;obtain⟨L,bD,ak,k2⟩:=enew wr (.cells #[.bool s2,.slice A2 n2 c2] 84);obtain⟨b8,bF⟩:∃b,wr.heap.size=b:=⟨_,rfl⟩;rw[bF]at k2;have v:=I.out.le ak;have du:IntL L (.agg #[.bool s2,.slice A2 n2 c2]) y9:=⟨A2,n2,c2,by rw[be],ck.le ak⟩;obtain⟨N,bK⟩:∃m,fr+k=m:=⟨_,rfl⟩;have aH:N<(qAk (sizS b) (topT l b) fr l b k).length :=by rw[qCg];have:=r.out;have:=af.out;omega
     obtain⟨gq,cq,o,-,aZ,-,-,cs,H,aA⟩:=v.row.at aH;injection o with o e2 e3;injection o with o;injection o with o;subst o;clear e2 e3;have ah:qAk (sizS b) (topT l b) fr l b (k+1)=(qAk (sizS b) (topT l b) fr l b k).set (fr+k) ((qAk (sizS b) (topT l b) fr l b k).getD (fr+k) 0 - topT l b*b.getD k 0):=rfl;have dt:(qAk (sizS b) (topT l b) fr l b k).getD N 0=(qAk (sizS b) (topT l b) fr l b k)[N]:=by rw[List.getD_eq_getElem?_getD,List.getElem?_eq_getElem aH];rfl
     have B:=aN.out;have Z:=qE6 B au.out a4.out (qFW (b:=b) B) k (by have:=r.out;have:=af.out;omega) _ (List.getElem_mem aH);rw[bK,dt,bi]at ah;generalize (qAk (sizS b) (topT l b) fr l b k)[N]=x9 at H ah Z;obtain⟨A4,n4,c4,rfl,ci⟩:=H;obtain⟨s4,bf⟩:∃s,decide (x9<0)=s:=⟨_,rfl⟩;rw[bf]at aA;obtain⟨T,hT⟩:∃T,topT l b=T:=⟨_,rfl⟩;have a5:=qFW (b:=b) B;have bB:=v.t;rw[hT]at ah a5 bB;have dr:IntL L (.agg #[.bool s4,.slice A4 n4 c4]) x9:=⟨A4,n4,c4,by rw[bf],ci⟩;have x0:L.cell? ⟨g,N*2,none⟩=some (.bool s4):=aA 0 _ rfl;have x1:L.cell? ⟨g,N*2+1,none⟩=some (.slice A4 n4 c4):=aA 1 _ rfl;have z0:L.cell? ⟨b8,0,none⟩=some (.bool s2):=cell_of_row L b8 0 _ _ _ k2;have z1:L.cell? ⟨b8,1,none⟩=some (.slice A2 n2 c2):=cell_of_row L b8 1 _ _ _ k2;have r0:L.cell? ⟨O,0,none⟩=some (.bool st):=cell_of_row L O 0 _ _ _ v.kt;have r1:L.cell? ⟨O,1,none⟩=some (.slice A6 n6 c6):=cell_of_row L O 1 _ _ _ v.kt;have l8:=gsl k2;have lt:=gsl v.kt;have bm:Isz T 100000000:=a5.up (by omega);have b4:Isz y9 100000000:=aL.up (by omega);have b3:Isz x9 90000000:=Z.up (by omega);have b2:Isz (T*y9) 90000000:=(qB0 a5 aL).up (by omega);have j9:(k:Int)<(nb:Int):=by omega
     have f4:(0:Int)<=(k:Int):=by omega
     have dw:(fr:Int)+(k:Int)=(N:Int):=by omega
     have e8:N<n:=by have:=r.out;have:=af.out;omega
     have f5:(N:Int)<(n:Int):=by omega
     have f6:(0:Int)<=(N:Int):=by omega
     clear dt;have⟨cc,cS,eL,eS,eT,eJ,bo,eb⟩:=hyd8 I hc aL bi ck be ak k2;have⟨cP,J,dv⟩:=hyd3 bF v du;clear du v bF k2 ak be ck bi aL hc I;have⟨de,bX,dn,eR,eK,e4,cI,ew⟩:=hyd8 aH ah Z ci bf aA hT a5;have⟨cJ,ds⟩:=hyd2 bB dr;clear dr bB a5 hT aA bf ci Z ah aH;have⟨bC,cm,cj,cg,e6,b5,d1,d2⟩:=hyd8 bm b4 b3 b2 bK dw x0 x1;have⟨en,eo,ed,cr⟩:=hyd4 z0 z1 r0 r1;clear r1 r0 z1 z0 x1 x0 dw bK b2 b3 b4 bm;go_wp2_with (fail);rw[cP.out];clear bD q0 q1;refine qAV (R:=leRel) 15 [some 64,some 65,some 66,some 67,some 68,some 69,some 70,some 71,some 72,some 73,some 74,some 75,some 76,some 77,some 78,none] [[],[],[],[1,2],[],[],[],[5,6],[4,7],[8],[],[],[10,11],[9,12],[0,3],[13,14]]
      [.eq (.slice (some ⟨g,0,none⟩) n c5),.eq (.int .i64 (fr:Int)),.eq (.int .i64 (k:Int)),.eq (.int .i64 (N:Int)),.eq (.slice (some ⟨g,0,none⟩) n c5),.eq (.int .i64 (fr:Int)),.eq (.int .i64 (k:Int)),.eq (.int .i64 (N:Int)),.eq (.pointer (some ⟨g,N*2,none⟩)),.eq (.agg #[.bool s4,.slice A4 n4 c4]),.eq (.agg #[.bool st,.slice A6 n6 c6]),.eq (.agg #[.bool s2,.slice A2 n2 c2]),MPred.intP (T*y9),MPred.intP (x9 - T*y9),.eq (.pointer (some ⟨g,N*2,none⟩))] (λ_ _=>False) (by kernel_rfl) (by kernel_rfl) (by kernel_rfl) (by kernel_rfl) (by kernel_rfl) ?_ (λ_ _ _ _ h=>h.elim) ?_
     ·simp only[List.take_succ_cons,List.take_zero];refine sMc rfl ?_ (sMc rfl ?_ (sMc rfl ?_ (sMc rfl ?_ (sMc rfl ?_ (sMc rfl ?_ (sMc rfl ?_ (sMc rfl ?_ (sMc rfl ?_ (sMc rfl ?_ (sMc rfl ?_ (sMc rfl ?_ (sMc rfl ?_ (sMc rfl ?_ (sMc rfl ?_ (qA2)))))))))))))))
      ·intro xv W y F Q hK hP;simp only[fA]at hK ⊢;go_wp2;exact hK _ _ lrR rfl
      ·intro xv W y F Q hK hP;simp only[fA]at hK ⊢;go_wp2;exact hK _ _ lrR rfl
      ·intro xv W y F Q hK hP;simp only[fA]at hK ⊢;go_wp2;exact hK _ _ lrR rfl
      ·intro xv W y F Q hK hP;obtain⟨P,o,-⟩:=F;change _=_ at P o;have jj:=b5.out;simp only[fA,P,o]at hK ⊢;go_wp2;exact hK _ _ lrR (by show Value.int _ _=Value.int _ _;congr 1)
      ·intro xv W y F Q hK hP;simp only[fA]at hK ⊢;go_wp2;exact hK _ _ lrR rfl
      ·intro xv W y F Q hK hP;simp only[fA]at hK ⊢;go_wp2;exact hK _ _ lrR rfl
      ·intro xv W y F Q hK hP;simp only[fA]at hK ⊢;go_wp2;exact hK _ _ lrR rfl
      ·intro xv W y F Q hK hP;obtain⟨P,o,-⟩:=F;change _=_ at P o;have jj:=b5.out;simp only[fA,P,o]at hK ⊢;go_wp2;exact hK _ _ lrR (by show Value.int _ _=Value.int _ _;congr 1)
      ·intro xv W y F Q hK hP;obtain⟨P,o,-⟩:=F;change _=_ at P o;simp only[fA,P,o]at hK ⊢;go_wp2;exact hK _ _ lrR rfl
      ·intro xv W y F Q hK hP;obtain⟨P,-⟩:=F;change _=_ at P;have t0:=(Below.cell y (p:=⟨g,N*2,none⟩) aZ).trans d1.out;have t1:=(Below.cell y (p:=⟨g,N*2+1,none⟩) aZ).trans d2.out;simp only[fA,P]at hK ⊢;go_wp2;exact hK _ _ lrR rfl
      ·intro xv W y F Q hK hP;have t0:=(Below.cell y (p:=⟨O,0,none⟩) lt).trans ed.out;have t1:=(Below.cell y (p:=⟨O,1,none⟩) lt).trans cr.out;simp only[fA]at hK ⊢;go_wp2;exact hK _ _ lrR rfl
      ·intro xv W y F Q hK hP;have t0:=(Below.cell y (p:=⟨b8,0,none⟩) l8).trans en.out;have t1:=(Below.cell y (p:=⟨b8,1,none⟩) l8).trans eo.out;simp only[fA]at hK ⊢;go_wp2;exact hK _ _ lrR rfl
      ·intro xv W y F Q hK hP;obtain⟨P,o,-⟩:=F;change _=_ at P o;simp only[fA,P,o]at hK ⊢;have kc:=qCf T y9 _ _ W (cJ.out.le y) (dv.out.le y) bC.out cm.out;have co:=hyd1 kc;clear kc;go_wp2_with (fail);go_at_call 53;refine co.out.mono ?_;rintro e w' ⟨v',rfl,y1,vA,vn,vc,rfl,y2⟩;have⟨cu,cw⟩:=hyd2 y1 y2;clear y2 y1;go_wp2;exact hK _ _ cu.out ⟨_,_,_,rfl,cw.out⟩
      ·intro xv W y F Q hK hP;obtain⟨P,o,-⟩:=F;change _=_ at P;replace o:IntL W (xv 12) (T*y9):=o;obtain⟨wA,wn,wc,qw,wh⟩:=o;simp only[fA,P,qw]at hK ⊢;have kc:=qHO x9 (T*y9) _ _ W (ds.out.le y) ⟨_,_,_,rfl,wh⟩ cj.out cg.out;have co:=hyd1 kc;clear kc;go_wp2_with (fail);go_at_call 54;refine co.out.mono ?_;rintro e w' ⟨v',rfl,y1,vA,vn,vc,rfl,y2⟩;have⟨cu,cw⟩:=hyd2 y1 y2;clear y2 y1;go_wp2;exact hK _ _ cu.out ⟨_,_,_,rfl,cw.out⟩
      ·intro xv W y F Q hK hP;obtain⟨P,o,-⟩:=F;change _=_ at P o;simp only[fA,P,o]at hK ⊢;go_wp2;exact hK _ _ lrR rfl
     intro xv W y F Q' cC _;obtain⟨A3,m3,c3,qv,aw⟩:IntL W (xv 13) (x9 - T*y9):=F 13 (by decide);have b9:=F 14 (by decide);change _=_ at b9;simp only[List.drop_succ_cons,List.drop_zero];rw[show List.range 15=[0,1,2,3,4,5,6,7,8,9,10,11,12,13,14]from rfl];simp only[fA,qv,b9];clear F;clear qv b9;have t0:=(Below.cell y (p:=⟨g,N*2,none⟩) aZ).trans d1.out;have t1:=(Below.cell y (p:=⟨g,N*2+1,none⟩) aZ).trans d2.out;have y0:=(J.out.row.le y).frz (N*2);have y1:=(J.out.row.le y).frz (N*2+1);obtain⟨s3,an⟩:∃s,decide (x9 - T*y9<0)=s:=⟨_,rfl⟩;rw[an];have⟨a3,bA,aJ⟩:=hyd3 aw y an;clear an y aw;go_wp2;refine cC _ _ ?_;clear cC t0 t1 y0 y1;have aw:=a3.out;have y:=bA.out;have an:=aJ.out;clear a3 bA aJ;have bS:=((J.out.le y).store dN cV.out cX cW (j:=N) de.out an aw).1;rw[cI.out,<-bX.out,<-cI.out]at bS;have⟨df,a3,bA,aJ⟩:=hyd4 bS aw y an;clear an y aw bS;go_wp2;go_roundw
     case rel=>exact⟨k+1,by go_num,by omega,df⟩
     case measure=>simp[intOf];omega
    ·obtain rfl:k=nb:=by omega
     have j9:¬(k:Int)<(k:Int):=by omega
     have v:=I.out;have cn:qAk (sizS b) (topT l b) fr l b k=qCt l b:=by unfold qCt;rw[r.out,C.out,af.out]
     have B:=aN.out;have Z:=qE6 B au.out a4.out (qFW (b:=b) B) (fr:=fr) k (by have:=r.out;have:=af.out;omega);have aF:(qAk (sizS b) (topT l b) fr l b k).length =n:=by rw[qCg];exact r.out
     rw[cn]at v Z aF;have bT:=v.row;have kp:=qDh w.heap.size _ (qCt l b) wr bT (by omega) (λx hx=>(Z x hx).up (by omega));have bY:qA5 (qCt l b)=qBh l b:=rfl;rw[bY]at kp;obtain⟨f2,fv,bI⟩:=qFv (b:=b) (l:=l) (f:=f) (by rw[C.out,r.out];exact aY) (by rw[C.out];exact hb0) (by rw[r.out];exact aB.out.out.1);have br:=qDP (a:=l) (b:=b) (by rw[C.out];exact hb0) (by rw[C.out,r.out];exact aY);rw[r.out]at br;have D:(qBh l b).length <=f2/\qB4 b f2 (qBh l b)=qAY a b:=⟨by have:=aB.out.out.1;omega,by rw[<-bI];exact aB.out.out.2⟩;have aQ:=qIF B au.out (by rw[C.out,r.out];exact aY);have aR:TopI (qBh l b):=qAc _;obtain⟨n2,bP⟩:∃n,(qBh l b).length =n:=⟨_,rfl⟩;rw[bP]at D br
     have b0:∀x∈qBh l b,Isz x (M+(na - n2)*(M+1)):=λx hx=>(aQ x hx).up (by
      have h9:na - n+1<=na - n2:=by omega
      have h8:=Nat.mul_le_mul_right (M+1) h9;have h7:=db.out;rw[Nat.add_mul]at h8
      omega)
     have⟨cc,J,eU,dn,dS,eH,ec,eM⟩:=hyd8 I v cn Z aF bT kp bY;have⟨e5,aC,dX,bh⟩:=hyd4 bI D aQ aR;clear aR aQ D bI bY kp bT aF Z cn v I;have⟨bv,ce⟩:=hyd2 bP b0;clear b0 bP;go_wp2_with (fail);go_at_call 65;refine ec.out.mono ?_;rintro e W6 ⟨v6,rfl,aE,aI⟩;have U:=J.out.le aE;obtain⟨A8,c8,rfl⟩:=aI.slice;rw[bv.out]at aI ⊢;have dh:=aI.base (base':=0) (Nat.zero_le _);have r1:=U.below;have r2:=U.b;have r3:=U.ks;have r4:=U.s;have⟨dR,eI,dW,di,cr,ee,ef,eg⟩:=hyd8 aE aI U dh r1 r2 r3 r4;clear r4 r3 r2 r1 dh U aI aE;go_wp2;go_roundw
     case rel=>exact⟨A8,c8,n2,f2,qBh l b,rfl,by omega,bv,cr,di,ee,ef,eg,aC,bh,ce⟩
     case measure=>simp[qBa];omega
  ·have h1:=qCu (b:=b) (l:=l) (by rw[C.out,ag.out];exact aY) f;have D:=bJ.out.2;rw[h1]at D;have z:=ax.out;have bU:=S.out;rw[D]at bU;have j4:¬(nb:Int)<=(n:Int):=by omega
   have⟨fm,aC,a9,dj⟩:=hyd4 h1 D z bU;clear bU z D h1;go_wp2;go_ret;exact⟨_,rfl,a9.out,dj.out⟩
end Go.Proofs.Ytcoajjdhkhgfdaa
