/- Roots, program side: signs at a fraction. (The regions between --@ARM and --@END are printed by gen_roots.py.) -/
import Derived.Test.YtcoajjdhkhgfdaaPk39
namespace Go.Proofs.Ytcoajjdhkhgfdaa
set_option maxRecDepth 100000
set_option maxHeartbeats 1000000
open Go.RowKit Go.Shelf
set_option linter.unusedVariables false
set_option linter.unusedSimpArgs false
def qBV (p:List Int) (a d:Int):Nat->Int
 | 0=>0
 | i+1=>qBV p a d i*a+p.getD (p.length - 1 - i) 0*d^i
theorem isz_one:Isz 1 1:=by unfold Isz;exact qDC (by decide)
theorem qLS (n:Nat):Isz 0 n:=by unfold Isz;rw[show(0:Int).natAbs =0 from rfl,qA1];exact Nat.zero_le _
theorem qFX {d:Int} {S:Nat} (h:Isz d S):∀k,Isz (d^k) (1+k*S)
 | 0=>by rw[Int.pow_zero];exact isz_one.up (by omega)
 | k+1=>by rw[Int.pow_succ,Nat.add_mul];exact(qB0 (qFX h k) h).up (by omega)
theorem qLn {a b:Int} {m n:Nat} (ha:Isz a m) (hb:Isz b n):Isz (a+b) (max m n+1):=by
 have h:=qIt ha (b:= -b) (n:=n) (by unfold Isz at hb ⊢;rwa[Int.natAbs_neg])
 rwa[show a - -b=a+b by omega]at h
theorem qFy {p:List Int} {a d:Int} {M S:Nat} (hp:∀x∈p,Isz x M) (ha:Isz a S) (hd:Isz d S):∀k,Isz (qBV p a d k) (M+k*(2*S+2)+1)
 | 0=>qLS _
 | k+1=>by
  have h1:=qB0 (qFy hp ha hd k) ha;have h2:=qB0 (qDB hp (p.length - 1 - k)) (qFX hd k);have e:k*(2*S+2)=k*S+k*S+2*k:=by rw[Nat.mul_add,Nat.two_mul,Nat.mul_add];omega
  unfold qBV;refine(qLn h1 h2).up ?_;rw[Nat.add_mul,e];omega
def MPred.boxI (n:Nat):MPred:=⟨λv W=>∃B,v= .pointer (some ⟨B,0,none⟩)/\n<=B/\W.heap[B]? =some (.cells #[.bool false,.slice none 0 0] 84),
 λ_ _ _ hb ⟨B,e,h1,k⟩=>⟨B,e,h1,(hb.block B (gsl k)).trans k⟩⟩
theorem qIQ {W:World} {B:Nat} {t:TypeId} {x y u0 u1:Value} (k:W.heap[B]? =some (.cells #[x,y] t)) (hx:NI .u32 x) (hy:NI .u32 y) (h0:NI .u32 u0) (h1:NI .u32 u1):
  ((W.setCell ⟨B,0,none⟩ u0).setCell ⟨B,1,none⟩ u1).heap[B]? =some (.cells #[u0,u1] t)/\Kp .u32 W ((W.setCell ⟨B,0,none⟩ u0).setCell ⟨B,1,none⟩ u1)/\(∀q,q≠B->((W.setCell ⟨B,0,none⟩ u0).setCell ⟨B,1,none⟩ u1).heap[q]? =W.heap[q]?)/\∀m,m<=B->Below m W ((W.setCell ⟨B,0,none⟩ u0).setCell ⟨B,1,none⟩ u1):=by
 have c:=nib2 k hx hy;exact⟨qGt k,((Kp.refl W).set c h0).set (qBy c h0) h1,λq hq=>(Below.heap_setCell _ ⟨B,1,none⟩ _ q hq).trans (Below.heap_setCell _ ⟨B,0,none⟩ _ q hq),λm b=>Below.setCell (Below.setCell (Below.refl _ _) (p:=⟨B,0,none⟩) b _) (p:=⟨B,1,none⟩) b _⟩
theorem qLT {W:World} {B:Nat} {t:TypeId} {x y u0:Value} (k:W.heap[B]? =some (.cells #[x,y] t)) (hx:NI .u32 x) (hy:NI .u32 y) (h0:NI .u32 u0):
  (W.setCell ⟨B,0,none⟩ u0).heap[B]? =some (.cells #[u0,y] t)/\Kp .u32 W (W.setCell ⟨B,0,none⟩ u0)/\(∀q,q≠B->(W.setCell ⟨B,0,none⟩ u0).heap[q]? =W.heap[q]?)/\∀m,m<=B->Below m W (W.setCell ⟨B,0,none⟩ u0):=by
 have c:=nib2 k hx hy;exact⟨qC2 k 0 u0,(Kp.refl W).set c h0,λq hq=>Below.heap_setCell _ ⟨B,0,none⟩ _ q hq,λm b=>Below.setCell (Below.refl _ _) (p:=⟨B,0,none⟩) b _⟩
def IBox (W:World) (B:Nat) (z:Int):Prop:=∃s A n c,W.heap[B]? =some (.cells #[.bool s,.slice A n c] 84)/\IntL W (.agg #[.bool s,.slice A n c]) z
theorem IBox.le {W V:World} {B:Nat} {z:Int} (h:IBox W B z) (hb:Le W V):IBox V B z:=by
 obtain⟨s,A,n,c,k,b⟩:=h;exact⟨s,A,n,c,(hb.block _ (gsl k)).trans k,b.le hb⟩
theorem IBox.keep {W V:World} {B:Nat} {z:Int} (h:IBox W B z) (hk:Kp .u32 W V) (hs:V.heap[B]? =W.heap[B]?):IBox V B z:=by
 obtain⟨s,A,n,c,k,b⟩:=h;exact⟨s,A,n,c,hs.trans k,b.kp hk⟩
theorem qJ9 (base:Nat) (v:Value) (p:List Int) (a d:Int) (B1 B2:Nat) (w:World) (hv:RowE intK 84 base w v p) (hl:p.length<=66) (hs:∀x∈p,Isz x 4000000)
  (k1:IBox w B1 a) (k2:IBox w B2 d) (hsa:Isz a 10000) (hsd:Isz d 10000):
  Calls Try.prog 52 #[v,.pointer (some ⟨B1,0,none⟩),.pointer (some ⟨B2,0,none⟩)] w λe w'=>e= .returned (.int .i64 (qBV p a d p.length).sign)/\Le w w':=by
 obtain⟨A,c,rfl⟩:=hv.slice;obtain⟨n,hn⟩:∃n,p.length=n:=⟨_,rfl⟩;rw[hn]at hl hv ⊢;have⟨dF,bH,cH,dK,dL,aD,aF⟩:=hyd7 hv hn hs k1 k2 hsa hsd;clear hsd hsa k2 k1 hs hn hv;go_enter Try.func52,Try.ntmps52;go_wp2_with (fail)
 obtain⟨W0,cn,bm,kS,kP⟩:∃W0,((w.alloc (.cells #[.int .u32 1] 94)).alloc (.cells #[.bool false,.slice none 0 0] 84)).alloc (.cells #[.bool false,.slice (some ⟨w.heap.size,0,none⟩) 1 1] 84)=W0/\Le w W0/\IBox W0 (w.heap.size+1) 0/\IBox W0 (w.heap.size+1+1) 1:=by
  obtain⟨V1,bB,aq,q1⟩:=enew w (.cells #[.int .u32 1] 94);obtain⟨F,aj,cr,q2⟩:=enew V1 (.cells #[.bool false,.slice none 0 0] 84);obtain⟨P,aT,ct,q3⟩:=enew F (.cells #[.bool false,.slice (some ⟨w.heap.size,0,none⟩) 1 1] 84);have z1:V1.heap.size=w.heap.size+1:=by rw[<-bB];simp
  have z2:F.heap.size=w.heap.size+1+1:=by rw[<-aj];simp[z1]
  rw[z1]at q2;rw[z2]at q3
  have cF:NumL (λ_=>True) .u32 V1 (.slice (some ⟨w.heap.size,0,none⟩) 1 1) 1:=by
   rw[<-bB];exact qBX (L:=λ_=>True) (k:= .u32) (V:=w) (g:=1) (λ_ _=>trivial) (by omega) qCb _
  have bT:NumL (λ_=>True) .u32 P (.slice none 0 0) 0:=by
   unfold NumL;rw[qA1];exact⟨none,0,rfl,Nat.le_refl _,Nat.zero_le _,λ_=>rfl,λh=>absurd h (Nat.lt_irrefl 0)⟩
  have cj:Le V1 P:=cr.trans (ct.mono cr.size);refine⟨P,by rw[bB,aj,aT],aq.trans (cj.mono aq.size),⟨_,_,_,_,(ct.block _ (gsl q2)).trans q2,none,0,0,rfl,bT⟩,⟨_,_,_,_,q3,_,_,_,rfl,cF.le cj⟩⟩
 rw[cn];obtain⟨q,a3⟩:∃b,w.heap.size+1=b:=⟨_,rfl⟩;obtain⟨D,ar⟩:∃b,q+1=b:=⟨_,rfl⟩;rw[a3]at kS kP ⊢;rw[ar]at kP ⊢;have cy:w.heap.size<=q:=by omega
 have cx:w.heap.size<=D:=by omega
 have bl:q≠D:=by omega
 clear cn;have⟨bF,dO,dM,d6,d4,a4⟩:=hyd6 bm kS kP a3 ar bl;clear bl ar a3 kP kS bm;go_loopw [14] (λi wr=>∃k:Nat,i= .int .i64 (k:Int)/\k<=n/\Hid (Below w.heap.size w wr)/\Hid (IBox wr q (qBV p a d k))/\Hid (IBox wr D (d^k))) (λi _=>n - (intOf i).toNat)
 case atStart=>exact⟨0,rfl,Nat.zero_le _,bF,dO,Lib.hid (by rw[Int.pow_zero];exact dM.out)⟩
 case round=>
  obtain⟨k,rfl,hk,hb,j,O⟩:=hrel;have au:=hb.out;obtain⟨ss,As,ns,cs,j,an⟩:=j.out;obtain⟨sp,Ap,np,cp,O,a9⟩:=O.out;have d5:=gsl j;have bC:=gsl O
  by_cases fa:k<n
  ·obtain⟨t,ht⟩:∃t,n - 1 - k=t:=⟨_,rfl⟩;obtain⟨l9,cB⟩:∃t,n - 1=t:=⟨_,rfl⟩;have bS:t<p.length:=by rw[bH.out];omega
   obtain⟨g,c',J,-,cA,-,-,eQ,cG,hc⟩:=(dF.out.le au).at bS;rw[bH.out]at J;injection J with J e2 e3;subst J e3;clear e2;have aZ:p.getD (p.length - 1 - k) 0=p[t]:=by rw[bH.out,show n - 1 - k=t from ht,List.getD_eq_getElem?_getD,List.getElem?_eq_getElem bS];rfl
   have al:qBV p a d (k+1)=qBV p a d k*a+p.getD (p.length - 1 - k) 0*d^k:=rfl;have bK:d^(k+1)=d^k*d:=Int.pow_succ d k;have X:=qFy cH.out aD.out aF.out k;have Y:=qFX aF.out k;have U:=cH.out _ (List.getElem_mem bS);rw[aZ]at al;generalize p[t]=z at cG aZ al U;obtain⟨A5,n5,c5,rfl,bU⟩:=cG;obtain⟨s5,ba⟩:∃s,decide (z<0)=s:=⟨_,rfl⟩;have cN:IntL wr (.agg #[.bool s5,.slice A5 n5 c5]) z:=⟨A5,n5,c5,by rw[ba],bU⟩;rw[ba]at hc;obtain⟨H9,b7⟩:∃H,qBV p a d k=H:=⟨_,rfl⟩;obtain⟨P9,bA⟩:∃H,d^k=H:=⟨_,rfl⟩;rw[b7]at an al X;rw[bA]at a9 al Y bK;have eu:k*(2*10000+2)<=66*(2*10000+2):=Nat.mul_le_mul_right _ (by omega);have ev:k*10000<=66*10000:=Nat.mul_le_mul_right _ (by omega);have cM:Isz z 100000000:=U.up (by decide);have cK:Isz P9 100000000:=Y.up (by omega);have cI:Isz H9 100000000:=X.up (by omega);have bu:Isz a 100000000:=aD.out.up (by decide);have bw:Isz d 100000000:=aF.out.up (by decide);have bx:Isz (H9*a) 90000000:=(qB0 X aD.out).up (by omega);have b2:Isz (z*P9) 90000000:=(qB0 U Y).up (by omega);have x0:wr.cell? ⟨g,t*2,none⟩=some (.bool s5):=hc 0 _ rfl;have x1:wr.cell? ⟨g,t*2+1,none⟩=some (.slice A5 n5 c5):=hc 1 _ rfl;have p0:wr.cell? ⟨D,0,none⟩=some (.bool sp):=cell_of_row wr D 0 _ _ _ O;have p1:wr.cell? ⟨D,1,none⟩=some (.slice Ap np cp):=cell_of_row wr D 1 _ _ _ O
   have j1:(k:Int)<(n:Int):=by omega
   have j2:(0:Int)<=(k:Int):=by omega
   have j4:(n:Int) - 1=(l9:Int):=by omega
   have j5:(l9:Int) - (k:Int)=(t:Int):=by omega
   have j6:(t:Int)<(n:Int):=by omega
   have j7:(0:Int)<=(t:Int):=by omega
   clear hb;have⟨S,aK,bz,aH,aA,e6,cE,br⟩:=hyd8 au j an O a9 aZ al bK;have⟨dD,aG,bQ,eA,cO,eZ,e7,eo⟩:=hyd8 X Y U bU cN hc ba b7;have⟨ep,b1,cL⟩:=hyd3 bA cM cK;clear cK cM bA b7 ba hc cN bU U Y X bK al aZ a9 O an j au;have⟨cJ,bL,bN,bO,bR,ed,ee,dU⟩:=hyd8 cI bu bw bx b2 x0 x1 p0;have⟨dV,fb,ey,dI,dJ⟩:=hyd5 p1 ht cB j4 j5;clear j5 j4 cB ht p1 p0 x1 x0 b2 bx bw bu cI;go_wp2_with (fail);refine qAV (R:=leRel) 11 [some 17,some 18,some 19,some 20,some 21,some 22,some 23,some 24,some 25,some 26,some 8,none] [[],[],[1],[2],[],[3,4],[0,5],[6],[],[7,8],[],[9,10]]
    [.eq (.slice (some ⟨g,0,none⟩) n c),.eq (.slice (some ⟨g,0,none⟩) n c),.eq (.int .i64 (n:Int)),.eq (.int .i64 (l9:Int)),.eq (.int .i64 (k:Int)),.eq (.int .i64 (t:Int)),.eq (.pointer (some ⟨g,t*2,none⟩)),.eq (.agg #[.bool s5,.slice A5 n5 c5]),.eq (.agg #[.bool sp,.slice Ap np cp]),MPred.intP (z*P9),MPred.boxI wr.heap.size] (λ_ _=>False) (by kernel_rfl) (by kernel_rfl) (by kernel_rfl) (by kernel_rfl) (by kernel_rfl) ?_ (λ_ _ _ _ h=>h.elim) ?_
   ·simp only[List.take_succ_cons,List.take_zero];refine sMc rfl ?_ (sMc rfl ?_ (sMc rfl ?_ (sMc rfl ?_ (sMc rfl ?_ (sMc rfl ?_ (sMc rfl ?_ (sMc rfl ?_ (sMc rfl ?_ (sMc rfl ?_ (sMc rfl ?_ (qA2)))))))))))
    ·intro E W f l Q hK hP;simp only[fA]at hK ⊢;go_wp2;exact hK _ _ lrR rfl
    ·intro E W f l Q hK hP;simp only[fA]at hK ⊢;go_wp2;exact hK _ _ lrR rfl
    ·intro E W f l Q hK hP;obtain⟨r,-⟩:=l;change _=_ at r;simp only[fA,r]at hK ⊢;go_wp2;exact hK _ _ lrR rfl
    ·intro E W f l Q hK hP;obtain⟨r,-⟩:=l;change _=_ at r;have jj:=dI.out;simp only[fA,r]at hK ⊢;go_wp2;exact hK _ _ lrR (by show Value.int _ _=Value.int _ _;congr 1)
    ·intro E W f l Q hK hP;simp only[fA]at hK ⊢;go_wp2;exact hK _ _ lrR rfl
    ·intro E W f l Q hK hP;obtain⟨r,J,-⟩:=l;change _=_ at r J;have jj:=dJ.out;simp only[fA,r,J]at hK ⊢;go_wp2;exact hK _ _ lrR (by show Value.int _ _=Value.int _ _;congr 1)
    ·intro E W f l Q hK hP;obtain⟨r,J,-⟩:=l;change _=_ at r J;simp only[fA,r,J]at hK ⊢;go_wp2;exact hK _ _ lrR rfl
    ·intro E W f l Q hK hP;obtain⟨r,-⟩:=l;change _=_ at r;have t0:=(Below.cell f (p:=⟨g,t*2,none⟩) cA).trans ed.out;have t1:=(Below.cell f (p:=⟨g,t*2+1,none⟩) cA).trans ee.out;simp only[fA,r]at hK ⊢;go_wp2;exact hK _ _ lrR rfl
    ·intro E W f l Q hK hP;have t0:=(Below.cell f (p:=⟨D,0,none⟩) bC).trans dU.out;have t1:=(Below.cell f (p:=⟨D,1,none⟩) bC).trans dV.out;simp only[fA]at hK ⊢;go_wp2;exact hK _ _ lrR rfl
    ·intro E W f l Q hK hP;obtain⟨r,J,-⟩:=l;change _=_ at r J;simp only[fA,r,J]at hK ⊢;have kc:=qCf z P9 _ _ W (cO.out.le f) (aA.out.le f) b1.out cL.out;have aM:=hyd1 kc;clear kc;go_wp2_with (fail);go_at_call 53;refine aM.out.mono ?_;rintro e w' ⟨v',rfl,y1,y2⟩;have⟨aN,aO⟩:=hyd2 y1 y2;clear y2 y1;go_wp2;exact hK _ _ aN.out aO.out
    ·intro E W f l Q hK hP;simp only[fA]at hK ⊢;go_wp2;exact hK _ _ (alc1 _ _) ⟨_,rfl,f.size,heap_alloc_new _ _⟩
   intro E W f l Q' ao _;obtain⟨A3,n3,c3,qv,f9⟩:IntL W (E 9) (z*P9):=l 9 (by decide);obtain⟨bc,cf,cu,N⟩:∃B,E 10= .pointer (some ⟨B,0,none⟩)/\wr.heap.size<=B/\W.heap[B]? =some (.cells #[.bool false,.slice none 0 0] 84):=l 10 (by decide);simp only[List.drop_succ_cons,List.drop_zero];rw[show List.range 11=[0,1,2,3,4,5,6,7,8,9,10]from rfl];simp only[fA,qv,cf];clear l;clear qv cf;obtain⟨sc,o⟩:∃s,decide (z*P9<0)=s:=⟨_,rfl⟩;rw[o];have t0:W.cell? ⟨bc,0,none⟩=some (.bool false):=cell_of_row W bc 0 _ _ _ N;have t1:W.cell? ⟨bc,1,none⟩=some (.slice none 0 0):=cell_of_row W bc 1 _ _ _ N;have⟨y0,y1⟩:=frz2 N;have⟨ci,ap,b3,aE⟩:=hyd4 f9 f N o;clear o N f f9;go_wp2;refine ao _ _ ?_;clear ao t0 t1 y0 y1;have f9:=ci.out;have f:=ap.out;have N:=b3.out;have o:=aE.out;clear ci ap b3 aE;have hC:=qB0 bQ.out aG.out;obtain⟨C9,aS⟩:∃C,z*P9=C:=⟨_,rfl⟩;have M:=bR.out;rw[aS]at f9 o M;have a6:=cE.out;rw[aS]at a6;obtain⟨g1,g2,d0,d1⟩:=qCS (b:=sc) (z:=C9) (f:Le wr W) cu N (qAO _) (qAF _ _ _) f9 o.symm;have kV:=qGt (u0:= .bool sc) (u1:= .slice A3 n3 c3) N;obtain⟨V,hV⟩:∃V,(W.setCell ⟨bc,0,none⟩ (.bool sc)).setCell ⟨bc,1,none⟩ (.slice A3 n3 c3)=V:=⟨_,rfl⟩;rw[hV]at g1 g2 d0 d1 kV ⊢;have aX:=(g2.num).1;have a8:=qFw (qIJ aX);obtain⟨s7,aC⟩:∃s,decide (-C9<0)=s:=⟨_,rfl⟩
   obtain⟨k7,aW,bI,aU⟩:=qLT (u0:= .bool s7) kV (qAO _) (qAF _ _ _) (qAO _);have y0:=fz0 kV 0;obtain⟨F,aj⟩:∃F,V.setCell ⟨bc,0,none⟩ (.bool s7)=F:=⟨_,rfl⟩;rw[aj]at k7 aW bI aU;have y:Le wr F:=Below.trans (show Below wr.heap.size wr V from g1) (aU _ cu);have c4:IntL F (.agg #[.bool s7,.slice A3 n3 c3]) (-C9):=⟨A3,n3,c3,by rw[aC],by rw[Int.natAbs_neg];exact aX.kp aW⟩;have cw:=gsl k7;have av:Below w.heap.size w F:=S.out.trans (y.mono S.out.size);have Z:=(y.block _ d5).trans aK.out;have b4:=(y.block _ bC).trans aH.out;have b0:=bz.out.le y;have bq:=aA.out.le y;have a2:=gsl Z;obtain⟨sa,A1,n1,c1,ka,co⟩:=dK.out.le av;have aq:=gsl ka;have s0:F.cell? ⟨q,0,none⟩=some (.bool ss):=cell_of_row F q 0 _ _ _ Z;have s1:F.cell? ⟨q,1,none⟩=some (.slice As ns cs):=cell_of_row F q 1 _ _ _ Z;have a0:F.cell? ⟨B1,0,none⟩=some (.bool sa):=cell_of_row F B1 0 _ _ _ ka;have a1:F.cell? ⟨B1,1,none⟩=some (.slice A1 n1 c1):=cell_of_row F B1 1 _ _ _ ka;have c0:F.cell? ⟨bc,0,none⟩=some (.bool s7):=cell_of_row F bc 0 _ _ _ k7;have c9:F.cell? ⟨bc,1,none⟩=some (.slice A3 n3 c3):=cell_of_row F bc 1 _ _ _ k7;have bv:Isz (-C9) 90000000:=by unfold Isz at M ⊢;rwa[Int.natAbs_neg]
   have bi:bc≠q:=by have:=gsl aK.out;omega
   have bh:bc≠D:=by have:=gsl aH.out;omega
   have cC:sc=true->s7=false:=λh=>by
    rw[<-aC];rw[h]at o;have h9:C9<0:=by simpa using o
    exact decide_eq_false (by omega)
   have ak:sc=false->decide (0<n3)=s7:=λh=>by
    rw[<-aC];rw[h]at o;have h9:¬C9<0:=by simpa using o
    exact decide_eq_decide.2 (by rw[a8];omega)
   clear f9 N f b1;have⟨eT,eU,fg,ez,dB,fe,ew,e4⟩:=hyd8 g1 g2 kV aX a8 k7 aW bI;have⟨er,d8,c7,aw,bV,aI,bP,bJ⟩:=hyd8 aU y c4 av Z b4 b0 bq;have⟨eX,en,df,a7,aE⟩:=hyd5 hC aS M a6 o;clear o a6 M aS hC bq b0 b4 Z av c4 y aU bI aW k7 a8 aX kV g2 g1;have⟨e8,fh,cq,dX,dZ,du,dv,dw⟩:=hyd8 aC ka co s0 s1 a0 a1 c0;have⟨dx,bM,d3,d2,cD,bo⟩:=hyd6 c9 bv bi bh cC ak;clear ak cC bh bi bv c9 c0 a1 a0 s1 s0 co ka aC
   cases sc
   all_goals first | (have h8:=bo.out rfl;go_wp2_with (fail);clear h8)| (have h7:=cD.out rfl;rw[h7]at aj;clear h7;go_wp2_with (fail))
   all_goals
    clear aj y0;refine qAV (R:=leRel) 5 [some 37,some 38,some 39,some 40,some 41,none] [[],[],[0,1],[],[2,3],[4]]
     [.eq (.agg #[.bool ss,.slice As ns cs]),.eq (.agg #[.bool sa,.slice A1 n1 c1]),MPred.intP (H9*a),.eq (.agg #[.bool s7,.slice A3 n3 c3]),MPred.intP (H9*a - -C9)] (λ_ _=>False) (by kernel_rfl) (by kernel_rfl) (by kernel_rfl) (by kernel_rfl) (by kernel_rfl) ?_ (λ_ _ _ _ h=>h.elim) ?_
    ·simp only[List.take_succ_cons,List.take_zero];refine sMc rfl ?_ (sMc rfl ?_ (sMc rfl ?_ (sMc rfl ?_ (sMc rfl ?_ (qA2)))))
     ·intro E W f l Q hK hP;have t0:=(Below.cell f (p:=⟨q,0,none⟩) a2).trans dX.out;have t1:=(Below.cell f (p:=⟨q,1,none⟩) a2).trans dZ.out;simp only[fA]at hK ⊢;go_wp2;exact hK _ _ lrR rfl
     ·intro E W f l Q hK hP;have t0:=(Below.cell f (p:=⟨B1,0,none⟩) aq).trans du.out;have t1:=(Below.cell f (p:=⟨B1,1,none⟩) aq).trans dv.out;simp only[fA]at hK ⊢;go_wp2;exact hK _ _ lrR rfl
     ·intro E W f l Q hK hP;obtain⟨r,J,-⟩:=l;change _=_ at r J;simp only[fA,r,J]at hK ⊢;have kc:=qCf H9 a _ _ W (bP.out.le f) (cq.out.le f) cJ.out bL.out;have aM:=hyd1 kc;clear kc;go_wp2_with (fail);go_at_call 53;refine aM.out.mono ?_;rintro e w' ⟨v',rfl,y1,y2⟩;have⟨aN,aO⟩:=hyd2 y1 y2;clear y2 y1;go_wp2;exact hK _ _ aN.out aO.out
     ·intro E W f l Q hK hP;have t0:=(Below.cell f (p:=⟨bc,0,none⟩) cw).trans dw.out;have t1:=(Below.cell f (p:=⟨bc,1,none⟩) cw).trans dx.out;simp only[fA]at hK ⊢;go_wp2;exact hK _ _ lrR rfl
     ·intro E W f l Q hK hP;obtain⟨r,J,-⟩:=l;change _=_ at J;replace r:IntL W (E 2) (H9*a):=r;simp only[fA,J]at hK ⊢;have kc:=qHO (H9*a) (-C9) _ _ W r (c7.out.le f) bO.out bM.out;have aM:=hyd1 kc;clear kc;go_wp2_with (fail);go_at_call 54;refine aM.out.mono ?_;rintro e w' ⟨v',rfl,y1,y2⟩;have⟨aN,aO⟩:=hyd2 y1 y2;clear y2 y1;go_wp2;exact hK _ _ aN.out aO.out
    intro E W f l Q' ao _;obtain⟨A6,n6,c6,qv,f4⟩:IntL W (E 4) (H9*a - -C9):=l 4 (by decide);simp only[List.drop_succ_cons,List.drop_zero];rw[show List.range 5=[0,1,2,3,4]from rfl];simp only[fA,qv];clear l;clear qv;obtain⟨s6,am⟩:∃s,decide (H9*a - -C9<0)=s:=⟨_,rfl⟩;rw[am];have j:=(f.block _ a2).trans bV.out;have t0:W.cell? ⟨q,0,none⟩=some (.bool ss):=cell_of_row W q 0 _ _ _ j;have t1:W.cell? ⟨q,1,none⟩=some (.slice As ns cs):=cell_of_row W q 1 _ _ _ j;have⟨y0,y1⟩:=frz2 j;have aa:=j;have⟨ch,ap,aL,bt⟩:=hyd4 f4 f aa am;clear am aa f f4;clear j;go_wp2;refine ao _ _ ?_;clear ao t0 t1 y0 y1;have f4:=ch.out;have f:=ap.out;have aa:=aL.out;have am:=bt.out;clear ch ap aL bt;obtain⟨k9,a5,aY,aV⟩:=qIQ (u0:= .bool s6) (u1:= .slice A6 n6 c6) aa (qAO _) (qAF _ _ _) (qAO _) (qAF _ _ _);obtain⟨P,aT⟩:∃P,(W.setCell ⟨q,0,none⟩ (.bool s6)).setCell ⟨q,1,none⟩ (.slice A6 n6 c6)=P:=⟨_,rfl⟩;rw[aT]at k9 a5 aY aV ⊢;clear aT;have ck:IBox P q (qBV p a d (k+1)):=⟨s6,A6,n6,c6,k9,⟨A6,n6,c6,by rw[a7.out,<-am,show H9*a - -C9=H9*a+C9 by omega],by rw[a7.out,<-show H9*a - -C9=H9*a+C9 by omega];exact f4.kp a5⟩⟩;have ax:Below w.heap.size w P:=(aw.out.trans (f.mono aw.out.size)).trans (aV _ cy);have bj:=a4.out;have ag:=(aY D (λh=>bj h.symm)).trans ((f.block _ (gsl aI.out)).trans aI.out)
    have aB:=(bJ.out.le f).kp a5;obtain⟨sd,A2,n2,c2,kd,bE⟩:=dL.out.le ax;have p0:P.cell? ⟨D,0,none⟩=some (.bool sp):=cell_of_row P D 0 _ _ _ ag;have p1:P.cell? ⟨D,1,none⟩=some (.slice Ap np cp):=cell_of_row P D 1 _ _ _ ag;have q0:P.cell? ⟨B2,0,none⟩=some (.bool sd):=cell_of_row P B2 0 _ _ _ kd;have q1:P.cell? ⟨B2,1,none⟩=some (.slice A2 n2 c2):=cell_of_row P B2 1 _ _ _ kd;have kt:=qCf P9 d _ _ P aB bE (aG.out.up (by omega)) bN.out;clear f4 aa am f bj;have⟨ff,ex,e5,es,cl,ay,aJ,dC⟩:=hyd8 k9 a5 aY aV ck ax ag aB;have⟨fi,et,dS⟩:=hyd3 kd bE kt;clear kt bE kd aB ag ax ck aV aY a5 k9;go_wp2_with (fail);go_at_call 53;refine dS.out.mono ?_;rintro e W4 ⟨v4,rfl,m,A8,n8,c8,rfl,ak⟩;obtain⟨s8,bb⟩:∃s,decide (P9*d<0)=s:=⟨_,rfl⟩;rw[bb];have I:=(m.block _ (gsl aJ.out)).trans aJ.out;have G:Below w.heap.size w W4:=ay.out.trans (m.mono ay.out.size);obtain⟨bd,T,af,ae⟩:=qIQ (u0:= .bool s8) (u1:= .slice A8 n8 c8) I (qAO _) (qAF _ _ _) (qAO _) (qAF _ _ _);have t0:W4.cell? ⟨D,0,none⟩=some (.bool sp):=cell_of_row W4 D 0 _ _ _ I;have t1:W4.cell? ⟨D,1,none⟩=some (.slice Ap np cp):=cell_of_row W4 D 1 _ _ _ I;have⟨y0,y1⟩:=frz2 I;obtain⟨V5,cm⟩:∃V5,(W4.setCell ⟨D,0,none⟩ (.bool s8)).setCell ⟨D,1,none⟩ (.slice A8 n8 c8)=V5:=⟨_,rfl⟩;rw[cm]at bd T af ae
    have bf:IBox V5 q (qBV p a d (k+1)):=(cl.out.le m).keep T (af q a4.out);have bg:IBox V5 D (d^(k+1)):=⟨s8,A8,n8,c8,bd,⟨A8,n8,c8,by rw[br.out,bb],by rw[br.out];exact ak.kp T⟩⟩;have bk:Below w.heap.size w V5:=G.trans (ae _ cx);clear p0 p1 q0 q1;have⟨bG,bo,e9,dP,az,eD,d7,dA⟩:=hyd8 m ak bb I G bd T af;have⟨dz,b8,b9,bD⟩:=hyd4 ae bf bg bk;clear bk bg bf ae af T bd G I bb ak m;go_wp2;clear cm t0 t1 y0 y1;go_roundw
    case rel=>exact⟨k+1,by go_num,by omega,bD,b8,b9⟩
    case measure=>simp[intOf];omega
  ·obtain rfl:k=n:=by omega
   have j1:¬(k:Int)<(k:Int):=by omega
   have kg:=qIL _ _ wr an;have s0:wr.cell? ⟨q,0,none⟩=some (.bool ss):=cell_of_row wr q 0 _ _ _ j;have s1:wr.cell? ⟨q,1,none⟩=some (.slice As ns cs):=cell_of_row wr q 1 _ _ _ j;obtain⟨z,hz⟩:∃z,(qBV p a d k).sign =z:=⟨_,rfl⟩;rw[hz]at kg;clear hb;have⟨S,aK,bz,aH,aA,dR,dH⟩:=hyd7 au j an O a9 kg hz;clear hz kg a9 O an j au;go_wp2_with (fail);go_at_call 43;refine dR.out.mono ?_;rintro e W4 ⟨rfl,m⟩;have G:Below w.heap.size w W4:=S.out.trans (m.mono S.out.size);have⟨bG,az⟩:=hyd2 m G;clear G m;go_wp2;go_ret;exact⟨by rw[dH.out];rfl,az.out⟩
end Go.Proofs.Ytcoajjdhkhgfdaa
