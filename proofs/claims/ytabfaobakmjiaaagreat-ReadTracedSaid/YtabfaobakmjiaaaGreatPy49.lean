/- Whether spots are traced to points in a way: read.traced. The point with which a spot is compared: barleycornlaw09.at. All ways in which spots can be traced, .. -/
import Derived.Test.YtabfaobakmjiaaaGreatPy48
namespace Go.Proofs.YtabfaobakmjiaaaGreat
set_option maxRecDepth 100000
set_option maxHeartbeats 4000000
open Go.RowKit
set_option linter.unusedVariables false
set_option linter.unusedSimpArgs false
theorem qFY {L:List Sp} {k:Nat} (h:k<L.length):L.getD k default=L[k]:=by rw[List.getD_eq_getElem?_getD,List.getElem?_eq_getElem h];rfl
attribute [local go_sem high] qGA
theorem qLe (P seen:List Sp) (pa fr q:Nat) (bk:Bool) (tol:Int) (v1 v2:Value) (w:World) (h1:SpotsV w v1 P) (h2:SpotsV w v2 seen) (hf:fr<P.length) (hq:q<=3)
  (hP:∀s∈P,(-10000<=s.1/\s.1<=10000)/\(-10000<=s.2/\s.2<=10000)) (hS:∀s∈seen,(-10000<=s.1/\s.1<=10000)/\(-10000<=s.2/\s.2<=10000)) (ht:0<=tol/\tol<=1000):
  Calls Tryz.prog 31 #[v1,v2,.agg #[.int .i64 (pa:Int),.int .i64 (fr:Int),.int .i64 (q:Int),.bool bk],.int .i64 tol] w λe w'=>e= .returned (.bool (fitT P seen tol ⟨pa,fr,q,bk⟩))/\Below w.heap.size w w':=by
 obtain⟨A1,c1,rfl,b9⟩:=h1.form;obtain⟨A2,c2,rfl,bB⟩:=h2.form;obtain⟨n,hn⟩:∃n,P.length=n:=⟨_,rfl⟩;obtain⟨sn,N⟩:∃n,seen.length=n:=⟨_,rfl⟩;rw[hn]at h1 b9 hf;rw[N]at h2 bB;rw[hn,N];obtain⟨S,E⟩:∃S:Int,(((if bk then n - 1 else 1:Nat)):Int)=S:=⟨_,rfl⟩;have bY:0<=S/\S<=1000:=by rw[<-E];cases bk<;>simp<;>omega
 obtain⟨ix,J⟩:∃f:Nat->Nat,(λk=>idxT n fr bk k)=f:=⟨_,rfl⟩;obtain⟨NK,R⟩:∃f:Nat->Bool,(λk=>qDT P seen tol ⟨pa,fr,q,bk⟩ k)=f:=⟨_,rfl⟩;have ba:((ix 0:Nat):Int)=(fr:Int):=by rw[<-J];show((idxT n fr bk 0:Nat):Int)=_;rw[qPS hf]
 have al:∀k,ix k<n:=λk=>by rw[<-J];exact qHE (by omega)
 have aX:∀k,(((ix k:Nat):Int)+S)%(n:Int)=((ix (k+1):Nat):Int):=λk=>by
  rw[<-J];show(((idxT n fr bk k:Nat):Int)+S)%(n:Int)=((idxT n fr bk (k+1):Nat):Int);rw[qPT (by omega),<-E,Int.natCast_emod,Int.natCast_add]
 have a4:∀k,k<sn->NK k=false->fitT P seen tol ⟨pa,fr,q,bk⟩=false:=λk hk h=>qRZ (by rw[N];exact hk) (by rw[<-R]at h;exact h);have ad:(∀k,k<sn->NK k=true)->fitT P seen tol ⟨pa,fr,q,bk⟩=true:=λh=>qQ4 λk hk=>by have h9:=h k (by rw[<-N];exact hk);rw[<-R]at h9;exact h9
 have m:∀k,NK k=qFz (rotP (P.getD (ix k) default) q) (seen.getD k default) tol:=λk=>by rw[<-R,<-J,<-hn];rfl
 obtain⟨W1,bC,aG,k1⟩:=newb w (.cells #[.int .i64 (pa:Int),.int .i64 (fr:Int),.int .i64 (q:Int),.bool bk] 37);have aC:Below W1.heap.size W1 W1/\∀j,j<0->NK j=true:=⟨Below.refl _ _,λj h=>absurd h (Nat.not_lt_zero _)⟩;obtain⟨c0,bw,bx,c3⟩:=pc4 k1;have w1:bk=true->IntKind.i64.wrap ((n:Int) - 1)=S:=λh=>by rw[<-E,h];simp only[if_true];rw[IntWalk.i64_in _ (by omega)];omega
 have w2:bk=false->S=1:=λh=>by rw[<-E,h];rfl
 obtain⟨t1,t2⟩:=ht;obtain⟨F,hF⟩:∃b,fitT P seen tol ⟨pa,fr,q,bk⟩=b:=⟨_,rfl⟩;rw[hF]at a4 ad ⊢;have ci:¬(n:Int)=0:=by omega
 have bX:¬n=0:=by omega
 have cj:(0:Int)<(n:Int):=by omega
 have⟨b4,b5,b8,bA,aR,am,bS,aj⟩:=hyd8 h1 h2 hP hS hn N E aG;have⟨bJ,aD,bb,aY,aS,a5,ac,ce⟩:=hyd8 k1 aC ba aX a4 ad m hF;have⟨a2,bW,bR⟩:=hyd3 al J R;clear R J al hF m ad a4 aX ba aC k1 aG E N hn hS hP h2 h1;go_enter Tryz.func31,Tryz.ntmps31
 cases bk
 all_goals
  first
   | (have w3:=w1 rfl;clear w1 w2)
   | (obtain rfl:=w2 rfl;clear w1 w2)
  go_wp2_with (fail);clear bC c0 bw bx c3;go_loopw [23,9] (λjx ax wr=>∃k:Nat,k<=sn/\jx= .int .i64 (k:Int)/\ax= .int .i64 ((ix k:Nat):Int)/\Hid (Below W1.heap.size W1 wr/\∀j,j<k->NK j=true)) (λjx _ _=>sn - (intOf jx).toNat)
  case atStart=>exact⟨0,Nat.zero_le _,rfl,by rw[bb.out],aD⟩
  case round=>
   obtain⟨k,hk,rfl,rfl,hI⟩:=hrel;obtain⟨o,v⟩:=hI.out;have I:=belT aj.out o
   by_cases aP:k<sn
   ·have aO:=a2.out k;have L:=aY.out k;have m:=ac.out k;obtain⟨i,hi⟩:∃i,ix k=i:=⟨_,rfl⟩;obtain⟨i2,aw⟩:∃i,ix (k+1)=i:=⟨_,rfl⟩;rw[hi,aw]at L;rw[hi]at aO m ⊢;have ay:i<P.length:=by rw[aR.out];exact aO
    have az:k<seen.length:=by rw[am.out];exact aP
    rw[qFY ay,qFY az]at m;have ah:=b8.out _ (List.getElem_mem ay);have aZ:=bA.out _ (List.getElem_mem az);obtain⟨bs,os,cs,ab,aM,g0,g1⟩:=SpotsV.at (b5.out.le I) az;rw[am.out]at ab;injection ab with e1 e2 e3;subst e1 e3;clear e2;obtain⟨Q,op,cp,ab,Z,p0,p1⟩:=SpotsV.at (b4.out.le I) ay;rw[aR.out]at ab;injection ab with e1 e2 e3;subst e1 e3;clear e2;obtain⟨⟨x1,x2⟩,hx⟩:∃x,seen[k]=x:=⟨_,rfl⟩;obtain⟨⟨y1,y2⟩,hy⟩:∃y,P[i]=y:=⟨_,rfl⟩;rw[hx]at g0 g1 aZ m;rw[hy]at p0 p1 ah m;dsimp only at g0 g1 p0 p1 aZ ah;obtain⟨c,bD,H,ka⟩:=newb wr (.cells #[.int .i64 x1,.int .i64 x2] 41);have V:=belT o H;have aU:=(H.cell (p:=⟨Q,op+i*2,none⟩) Z).trans p0;have aV:=(H.cell (p:=⟨Q,op+i*2+1,none⟩) Z).trans p1;have C:Q<c.heap.size:=Nat.lt_of_lt_of_le Z H.size;have hT:=blk V bJ.out;have co:¬Q=c.heap.size:=Nat.ne_of_lt C;have cq:¬c.heap.size=Q:=Nat.ne_of_gt C;have cr:¬w.heap.size=c.heap.size:=Nat.ne_of_lt (gsl hT);have ct:¬c.heap.size=w.heap.size:=Nat.ne_of_gt (gsl hT);have aW:=qEm (x:=(y1,y2)) ah q;obtain⟨⟨A,B⟩,hr⟩:∃r,rotP (y1,y2) q=r:=⟨_,rfl⟩;rw[hr]at m aW;dsimp only at aW;have kq:=λW=>qJM (y1,y2) q W ah (by omega);rw[hr]at kq;have ar:∀w',Below c.heap.size c w'->w'.cell? ⟨Q,op+i*2,none⟩=some (.int .i64 y1)/\w'.cell? ⟨Q,op+i*2+1,none⟩=some (.int .i64 y2)/\w'.cell? ⟨w.heap.size,2,none⟩=some (.int .i64 (q:Int)):=λw' hb=>⟨(hb.cell (p:=⟨Q,op+i*2,none⟩) C).trans aU,(hb.cell (p:=⟨Q,op+i*2+1,none⟩) C).trans aV,(pc4 (blk hb hT)).2.2.1⟩
    obtain⟨u1,u2,u3⟩:=ar c (Below.refl _ _);have a6:=kq c.drew;have a7:=kq (c.alloc (.cells #[.int .i64 0,.int .i64 0] 41)).drew;have aI:Below c.heap.size c c.drew:=(Below.refl c.heap.size c).drew;have aK:Below c.heap.size c (c.alloc (.cells #[.int .i64 0,.int .i64 0] 41)).drew :=(alc1 c _).drew;have bi:(c.alloc (.cells #[.int .i64 0,.int .i64 0] 41)).drew.heap[c.heap.size]? =some (.cells #[.int .i64 0,.int .i64 0] 41):=qCN c _;have j1:(k:Int)<(sn:Int):=by omega
    have j2:(0:Int)<=(k:Int):=by omega
    have j3:(i:Int)<(n:Int):=by omega
    have j4:(0:Int)<=(i:Int):=by omega
    dsimp only at a6 a7;clear p0 p1 aU aV;have⟨b7,av,T,ak,aT,ac,ch,aN⟩:=hyd8 hI o v I L m hi aw;have⟨cl,cm,bT,bL,au,cf,ck,cn⟩:=hyd8 hx hy H ka V hT hr kq;have⟨ai,be,bf,aJ,aL,bj,bU,bV⟩:=hyd8 ar a6 a7 aI aK bi Z aM;clear aM Z bi aK aI a7 a6 ar kq hr hT V ka H hy hx aw hi m L I v o hI;go_wp2_with (fail);clear bD g0 g1
    go_region_held3 (λw'=>w'.cell? ⟨Q,op+i*2,none⟩=some (.int .i64 y1)/\w'.cell? ⟨Q,op+i*2+1,none⟩=some (.int .i64 y2)/\w'.cell? ⟨w.heap.size,2,none⟩=some (.int .i64 (q:Int))) (go_keep) (first | (go_at_call 61;with_reducible refine(be.out).mono ?_;rintro e O ⟨rfl,G⟩;have d:=belT aJ.out G;obtain⟨t1,t2,t3⟩:=ai.out O d;have g:=Lib.hid d;clear G d)| (go_at_call 61;with_reducible refine(bf.out).mono ?_;rintro e O ⟨rfl,G⟩;have d:=belT aL.out G;obtain⟨t1,t2,t3⟩:=ai.out O d;have kz:=blk G bj.out;obtain⟨z0,z1⟩:=pc2 kz;have fz0:=pfrz kz 0;have bz:=pfrz kz 1;have g:=Lib.hid d;have bh:=Lib.hid kz;clear G d kz))
    all_goals
     rename_i hHeld;clear hHeld
     first
      | (
       have t:Below c.heap.size c (O.alloc (.cells #[.int .i64 A,.int .i64 B] 41)):=belT g.out (alc1 O _);have kX:(O.alloc (.cells #[.int .i64 A,.int .i64 B] 41)).heap[O.heap.size]? =some (.cells #[.int .i64 A,.int .i64 B] 41):=qCN O _;generalize (O.alloc (.cells #[.int .i64 A,.int .i64 B] 41))=W6 at t kX ⊢;obtain⟨X,hX⟩:∃X,X=O.heap.size:=⟨_,rfl⟩;rw[<-hX]at kX ⊢
       clear hX t1 t2 t3 g)
      | (
       have t:Below c.heap.size c ((O.setCell ⟨c.heap.size,0,none⟩ (.int .i64 A)).setCell ⟨c.heap.size,1,none⟩ (.int .i64 B)):=Below.setCell (Below.setCell g.out (p:=⟨c.heap.size,0,none⟩) (Nat.le_refl _) _) (p:=⟨c.heap.size,1,none⟩) (Nat.le_refl _) _;have kX:((O.setCell ⟨c.heap.size,0,none⟩ (.int .i64 A)).setCell ⟨c.heap.size,1,none⟩ (.int .i64 B)).heap[c.heap.size]? =some (.cells #[.int .i64 A,.int .i64 B] 41):=qB8 bh.out;generalize ((O.setCell ⟨c.heap.size,0,none⟩ (.int .i64 A)).setCell ⟨c.heap.size,1,none⟩ (.int .i64 B))=W6 at t kX ⊢;obtain⟨X,hX⟩:∃X,X=c.heap.size:=⟨_,rfl⟩;rw[<-hX]at kX ⊢
       clear hX t1 t2 t3 g z0 z1 fz0 bz bh)
     have z:=belT au.out t;have D:=belT aj.out z;have ae:=blk t bL.out;obtain⟨a0,a1⟩:=pc2 ae;obtain⟨b0,b1⟩:=pc2 kX;clear u1 u2 u3;have s1:IntKind.i64.wrap (x1 - A)=x1 - A:=IntWalk.i64_in _ (by omega);have s2:IntKind.i64.wrap (A - x1)=A - x1:=IntWalk.i64_in _ (by omega);have s3:IntKind.i64.wrap (x2 - B)=x2 - B:=IntWalk.i64_in _ (by omega);have s4:IntKind.i64.wrap (B - x2)=B - x2:=IntWalk.i64_in _ (by omega);obtain⟨M,hM⟩:∃M,max (x1 - A) (max (A - x1) (max (x2 - B) (B - x2)))=M:=⟨_,rfl⟩;have l:=ac.out
     have hN:qFz (A,B) (x1,x2) tol=decide (M<=tol):=by
      unfold qFz qAE;rw[Bool.eq_iff_iff];simp only[Bool.and_eq_true,decide_eq_true_eq];omega
     rw[hN]at l;clear hN
     by_cases cg:tol<M
     ·obtain rfl:F=false:=aS.out k aP (by rw[l];exact decide_eq_false (by omega));have⟨aH,bK,Y,aa,bc,a3⟩:=hyd6 t kX z D ae l;clear l ae D z kX t;go_wp2;go_ret;exact⟨rfl,aa.out⟩
     ·have U:∀j,j<k+1->NK j=true:=λj hj=>by
       by_cases e:j=k
       ·subst e;rw[l];exact decide_eq_true (by omega)
       ·exact T.out j (by omega)
      have L:=aT.out
      first
       | (
        have s5:IntKind.i64.wrap ((i:Int)+S)=(i:Int)+S:=IntWalk.i64_in _ (by omega);have s6:((i:Int)+S).tmod (n:Int)=(i2:Int):=by rw[Int.tmod_eq_emod_of_nonneg (by omega)];exact L
        have s7:(0:Int)<=(i:Int)+S:=by omega)
       | (
        have s5:IntKind.i64.wrap ((i:Int)+1)=(i:Int)+1:=IntWalk.i64_in _ (by omega);have s6:((i:Int)+1).tmod (n:Int)=(i2:Int):=by rw[Int.tmod_eq_emod_of_nonneg (by omega)];exact L
        have s7:(0:Int)<=(i:Int)+1:=by omega)
      have⟨aH,bK,Y,aa,bc,a3,ag⟩:=hyd7 t kX z D ae l U;clear U l ae D z kX t;go_wp2;go_roundw
      case rel=>exact⟨k+1,by omega,by go_num,by rw[aN.out],Lib.hid ⟨Y.out,ag.out⟩⟩
      case measure=>simp[intOf];omega
   ·obtain rfl:sn=k:=by omega
    obtain rfl:F=true:=a5.out v;have⟨b7,av,ak,T⟩:=hyd4 hI o I v;clear v I o hI;go_wp2;go_ret;exact⟨rfl,ak.out⟩
end Go.Proofs.YtabfaobakmjiaaaGreat
namespace Go.Proofs.YtabfaobakmjiaaaGreat
set_option maxRecDepth 100000
set_option maxHeartbeats 2000000
open Go.RowKit
set_option linter.unusedVariables false
set_option linter.unusedSimpArgs false
theorem qHh {I n:Int} (hn:0<n):(-n<I.tmod n/\I.tmod n<n)/\(I.tmod n+n).tmod n=I%n:=by
 have b: -n<I.tmod n/\I.tmod n<n:=by
  have:=Int.tmod_lt_of_pos I hn
  have c: -n<I.tmod n:=by
   have:=Int.lt_tmod_of_pos I hn;omega
  exact⟨c,this⟩
 refine⟨b,?_⟩;rw[Int.tmod_eq_emod_of_nonneg (by omega),Int.add_emod_right,Int.tmod_def];exact Int.sub_mul_emod_self_left I n _
structure AtQ (w:World) (X Z:Nat) (y:Sp) (k:Nat) (W:World):Prop where
 bw:Below w.heap.size w W
 kx:W.heap[X]? =some (.cells #[.int .i64 (rotP y k).1,.int .i64 (rotP y k).2] 41)
 kz:W.heap[Z]? =some (.cells #[.int .i64 0,.int .i64 0] 41)
theorem AtQ.step {w W:World} {X Z:Nat} {y:Sp} {k:Nat} {a b:Int} (h:AtQ w X Z y k W) (hX:w.heap.size<=X) (hZ:Z<X) (ha:(rotP y k).1=a) (hb:(rotP y k).2=b):AtQ w X Z y (k+1) ((W.setCell ⟨X,0,none⟩ (.int .i64 (-b))).setCell ⟨X,1,none⟩ (.int .i64 a)):=by
 subst ha hb;exact⟨Below.setCell (Below.setCell h.bw (p:=⟨X,0,none⟩) hX _) (p:=⟨X,1,none⟩) hX _,qB8 h.kx,(Below.heap_setCell _ ⟨X,1,none⟩ _ Z (Nat.ne_of_lt hZ)).trans ((Below.heap_setCell _ ⟨X,0,none⟩ _ Z (Nat.ne_of_lt hZ)).trans h.kz)⟩
theorem qLf (P:List Sp) (pa fr q:Nat) (bk:Bool) (k:Nat) (v:Value) (w:World) (hv:SpotsV w v P) (hn0:0<P.length) (hf:fr<=1000) (hq:q<=3) (hk:k<=1000) (hP:∀s∈P,(-10000<=s.1/\s.1<=10000)/\(-10000<=s.2/\s.2<=10000)):
  Calls Tryz.prog 12 #[v,.agg #[.int .i64 (pa:Int),.int .i64 (fr:Int),.int .i64 (q:Int),.bool bk],.int .i64 (k:Int)] w λe w'=>
   e= .returned (.agg #[.int .i64 (rotP (P.getD (idxT P.length fr bk k) default) q).1,.int .i64 (rotP (P.getD (idxT P.length fr bk k) default) q).2])/\Below w.heap.size w w':=by
 obtain⟨A1,c1,rfl,a0⟩:=hv.form;obtain⟨n,hn⟩:∃n,P.length=n:=⟨_,rfl⟩;rw[hn]at hv a0 hn0 ⊢;obtain⟨i,hi⟩:∃i,idxT n fr bk k=i:=⟨_,rfl⟩;have bl:i<n:=by rw[<-hi];exact qHE hn0
 have j:=qEY (fr:=fr) (bk:=bk) (k:=k) hn0;rw[hi]at j ⊢;have N:i<P.length:=by omega
 rw[qFY N];have B:=hP _ (List.getElem_mem N);obtain⟨bp,op,cp,af,E,p0,p1⟩:=SpotsV.at hv N;rw[hn]at af;injection af with e1 e2 e3;subst e1 e3;clear e2;obtain⟨⟨T,U⟩,hy⟩:∃y,P[i]=y:=⟨_,rfl⟩;rw[hy]at p0 p1 B ⊢;dsimp only at p0 p1 B;have ah:=qEm (x:=(T,U)) B;obtain⟨Y,a4,C,k1⟩:=newb w (.cells #[.int .i64 (pa:Int),.int .i64 (fr:Int),.int .i64 (q:Int),.bool bk] 37);obtain⟨W2,a5,D,k2⟩:=newb Y (.cells #[.int .i64 0,.int .i64 0] 41);obtain⟨W3,a6,t,k3⟩:=newb W2 (.cells #[.int .i64 T,.int .i64 U] 41);have c:=belT C D;have r:=belT c t;have F:=blk D k1;have O:=blk t F;obtain⟨d0,d1,d2,d3⟩:=pc4 F;obtain⟨u0,u1,u2,u3⟩:=pc4 O;have aJ:=(c.cell (p:=⟨bp,op+i*2,none⟩) E).trans p0;have aK:=(c.cell (p:=⟨bp,op+i*2+1,none⟩) E).trans p1;have f:AtQ w W2.heap.size Y.heap.size (T,U) 0 W3:=⟨r,k3,blk t k2⟩;have o:Y.heap.size<W2.heap.size:=gsl k2;have A:w.heap.size<=W2.heap.size:=c.size;have l:w.heap.size<=Y.heap.size:=C.size;have s1:IntKind.i64.wrap ((fr:Int)+(k:Int))=(fr:Int)+(k:Int):=IntWalk.i64_in _ (by omega);have s2:IntKind.i64.wrap ((fr:Int) - (k:Int))=(fr:Int) - (k:Int):=IntWalk.i64_in _ (by omega);have ag:(0:Int)<(n:Int):=by omega
 have bo:¬(n:Int)=0:=by omega
 have aT:¬n=0:=by omega
 have j3:(i:Int)<(n:Int):=by omega
 have j4:(0:Int)<=(i:Int):=by omega
 clear p0 p1;have⟨bq,bn,bj,bh,br,ai,aU,aO⟩:=hyd8 hv hn hi hP hy ah B C;have⟨bs,aP,bt,aQ,bu,a8,aA,aV⟩:=hyd8 k1 D k2 t k3 c r F;have⟨aW,d,aR,aj,ak,ad⟩:=hyd6 O f E A l o;clear o l A E f O F r c k3 t k2 D k1 C B ah hy hP hi hn hv
 cases bk
 all_goals
  simp only[Bool.false_eq_true,if_false,if_true]at j
  first
   | (
    obtain⟨⟨a1,a2⟩,a3⟩:=qHh (I:=(fr:Int)+(k:Int)) ag;obtain⟨a,ha⟩:∃a,((fr:Int)+(k:Int)).tmod (n:Int)=a:=⟨_,rfl⟩;rw[ha]at a1 a2 a3
    rw[<-j]at a3)
   | (
    obtain⟨⟨a1,a2⟩,a3⟩:=qHh (I:=(fr:Int) - (k:Int)) ag;obtain⟨a,ha⟩:∃a,((fr:Int) - (k:Int)).tmod (n:Int)=a:=⟨_,rfl⟩;rw[ha]at a1 a2 a3
    rw[<-j]at a3)
  have s3:IntKind.i64.wrap (a+(n:Int))=a+(n:Int):=IntWalk.i64_in _ (by omega);have aS:=hyd1 j;clear j;go_enter Tryz.func12,Tryz.ntmps12;go_wp2_with (fail);clear a4 a5 a6 aJ aK d0 d1 d2 d3 u0 u1 u2 u3;have o:=ad.out;obtain⟨X,hX⟩:∃X,W2.heap.size=X:=⟨_,rfl⟩;obtain⟨Z,hZ⟩:∃Z,Y.heap.size=Z:=⟨_,rfl⟩;have f:=d.out;have A:=aj.out;have l:=ak.out;rw[hX,hZ]at f o;rw[hX]at A;rw[hZ]at l
  try rw[hX]
  try rw[hZ]
  clear d hX hZ;have d:=hyd1 f;clear f;go_loopw [34] (λjx wr=>∃m:Nat,m<=q/\jx= .int .i64 (m:Int)/\Hid (AtQ w X Z (T,U) m wr)) (λjx _=>q - (intOf jx).toNat)
  case atStart=>exact⟨0,Nat.zero_le _,rfl,d⟩
  case round=>
   obtain⟨m,hm,rfl,R⟩:=hrel;obtain⟨z,Q,L⟩:=R.out;have S:=ai.out m;obtain⟨a9,g⟩:∃a,(rotP (T,U) m).1=a:=⟨_,rfl⟩;obtain⟨b9,h⟩:∃b,(rotP (T,U) m).2=b:=⟨_,rfl⟩;obtain⟨c0,c1⟩:=pc2 Q;rw[g]at c0 S;rw[h]at c1 S
   by_cases bm:m<q
   ·have f0:=pfrz Q 0;have f1:=pfrz Q 1;have hN:=R.out.step A o g h;have s5:IntKind.i64.wrap (-b9)= -b9:=IntWalk.i64_in _ (by omega);have jm:(m:Int)<(q:Int):=by omega
    have⟨ay,ae,aH,aI,G,H,az,aB⟩:=hyd8 R z Q L g h hN S;clear S hN h g L Q z R;go_wp2;go_roundw
    case rel=>exact⟨m+1,by omega,by go_num,az⟩
    case measure=>simp[intOf];omega
   ·obtain rfl:q=m:=by omega
    obtain⟨g0,g1⟩:=pc2 L;have f0:=pfrz L 0;have f1:=pfrz L 1
    obtain⟨W9,bi,J,k9⟩:∃V,(wr.setCell ⟨Z,0,none⟩ (.int .i64 a9)).setCell ⟨Z,1,none⟩ (.int .i64 b9)=V/\Below w.heap.size w V/\V.heap[Z]? =some (.cells #[.int .i64 a9,.int .i64 b9] 41):=
     ⟨_,rfl,Below.setCell (Below.setCell z (p:=⟨Z,0,none⟩) l _) (p:=⟨Z,1,none⟩) l _,qB8 L⟩
    obtain⟨e0,e1⟩:=pc2 k9;have⟨ay,ae,aH,aI,G,H,aB,M⟩:=hyd8 R z Q L g h S J;have bv:=hyd1 k9;clear k9 J S h g L Q z R;go_wp2;exact bodyPost_ret (v:= .agg #[.int .i64 a9,.int .i64 b9]) (by simp[results,Tryz.results12,go_sem,e0,e1]) rfl ⟨by rw[G.out,H.out],M.out⟩
set_option maxHeartbeats 1000000
open Go.RowKit Go.Shelf
attribute [local go_sem] Oper.semAt_some
theorem qDs {W W':World} (h:Below W.heap.size W W'):W.grownBy W' none:=⟨h.os,h.tape,h.output,h.size,λk hk _=>h.block k hk⟩
theorem OwnFrom.laterT {β:Type} {B:Nat} {I:β->World->Prop} (h:OwnFrom B I) {s:β} {W W':World} (hs:I s W) (hb:Below W.heap.size W W'):I s W':=h s W W' none hs (qDs hb) (λr e=>by cases e)
def qNy (x:Tra):Array Value:=#[traV x]
theorem qR0 (path f q b:Nat) (hq:q<4) (hb:b<2):wayK path (8*f+2*q+b)=⟨path,f,q,b==1⟩:=by
 unfold wayK;have c:(8*f+2*q+b) / 8=f:=by omega
 have d:(8*f+2*q+b) / 2%4=q:=by omega
 have g:(8*f+2*q+b)%2=b:=by omega
 rw[c,d,g]
def trT (t:TypeId):Prop:=t=37∨t=26
structure KeepX (W W':World):Prop where
 size:W.heap.size<=W'.heap.size
 tag:∀(k:Nat) (cs:Array Value) (t:TypeId),W.heap[k]? =some (.cells cs t)->¬trT t->W'.heap[k]? =some (.cells cs t)
theorem KeepX.refl (W:World):KeepX W W:=⟨Nat.le_refl _,λ_ _ _ h _=>h⟩
theorem KeepX.trans {A B C:World} (h:KeepX A B) (k:KeepX B C):KeepX A C:=⟨Nat.le_trans h.size k.size,λi cs t hi ht=>k.tag i cs t (h.tag i cs t hi ht) ht⟩
theorem KeepX.fresh {W W':World} (h:Below W.heap.size W W'):KeepX W W':=⟨h.size,λk cs t hk _=>(h.block k (gsl hk)).trans hk⟩
theorem KeepX.of_grown {W W':World} {row:Option Nat} (hg:W.grownBy W' row) (ho:∀g,row=some g->∀(cs:Array Value) (t:TypeId),W.heap[g]? =some (.cells cs t)->trT t):KeepX W W':=
 ⟨hg.size,λk cs t hk ht=>(hg.block k (gsl hk) (λe=>ht (ho k e.symm cs t hk))).trans hk⟩
theorem KeepX.put {W:World} {l:Nat} {o:Obj} (o':Obj) (hl:W.heap[l]? =some o) (ho:o.isCells=false):KeepX W (W.putObj l o'):=
 KeepX.of_grown (grownBy_putObj' W l o') (λg e cs t h=>by cases e;rw[hl]at h;cases h;cases ho)
theorem KeepX.setCell {W:World} {g i:Nat} {cs:Array Value} {t:TypeId} (v:Value) (hg:W.heap[g]? =some (.cells cs t)) (ht:trT t):KeepX W (W.setCell ⟨g,i,none⟩ v):=
 ⟨by simp[World.setCell],λk cs' t' hk ht'=>by
  refine(Below.heap_setCell _ ⟨g,i,none⟩ _ k (λe=>?_)).trans hk;have e:k=g:=e;subst e;rw[hg]at hk
  cases hk
  exact ht' ht⟩
theorem qLg (path n Bn Bp:Nat) (w:World) (hn:n<=1000) (kn:w.heap[Bn]? =some (.cells #[.int .i64 (n:Int)] 3)) (kp:w.heap[Bp]? =some (.cells #[.int .i64 (path:Int)] 3)):
  SeqO Fence.wide 4 Tryz.prog 60 #[.pointer (some ⟨Bn,0,none⟩),.pointer (some ⟨Bp,0,none⟩)] qNy (λpre x _=>x=wayK path pre.length/\pre.length<8*n) KeepX (λxs=>xs=qBG path (8*n)) (λpre=>pre<+:qBG path (8*n)) (8*n) w:=by
 intro l J Jx W hW Z E hY ar;have R:=(hW.block _ (gsl kn)).trans kn;have al:=(hW.block _ (gsl kp)).trans kp;have c0:=qAO R;have tn:¬trT 3:=by unfold trT;decide
 have tb:¬trT 4:=by unfold trT;decide
 have⟨aQ,aR,aK,aa,au,aw,aB,am⟩:=hyd8 kn kp hW Z E hY R al;have⟨a4,a3⟩:=hyd2 tn tb;clear tb tn al R hY E Z hW kp kn;refine callsIn_of_wp Tryz.func60 rfl trivial ?_ rfl;simp only[Tryz.ntmps60,List.size_toArray,List.length_cons,List.length_nil,Nat.reduceAdd,Nat.reduceSub,Array.replicate_succ,Array.replicate_zero,List.push_toArray,List.append_toArray,List.nil_append,List.cons_append];gi_wp2;clear c0;gi_loopw [9] (λix wr=>∃f:Nat,f<=n/\ix= .int .i64 (f:Int)/\Hid (J (qBG path (8*f)) wr/\KeepX W wr)) (λix _=>n - (intOf ix).toNat)
 case atStart=>exact⟨0,Nat.zero_le _,rfl,Lib.hid ⟨ar,KeepX.refl _⟩⟩
 case round=>
  obtain⟨f,hf,rfl,m⟩:=hrel
  by_cases aL:f<n
  ·obtain⟨p,v⟩:=m.out;have aP:(f:Int)<(n:Int):=by omega
   have⟨ab,r,F⟩:=hyd3 m p v;clear v p m;gi_wp2;gi_loopw [12] (λqx wv=>∃q:Nat,q<=4/\qx= .int .i64 (q:Int)/\Hid (J (qBG path (8*f+2*q)) wv/\KeepX W wv)) (λqx _=>4 - (intOf qx).toNat)
   case atStart=>exact⟨0,Nat.zero_le _,rfl,Lib.hid ⟨r.out,F.out⟩⟩
   case round=>
    obtain⟨q,hq,rfl,g⟩:=hrel
    by_cases ay:q<4
    ·obtain⟨c,i⟩:=g.out;rename World=>w3
     obtain⟨Wb,av,z,kb⟩:=newb w3 (.cells #[.bool false,.bool true] 4);have X:=OwnFrom.laterT (I:=J) aa.out c z;have ac:=i.trans (KeepX.fresh z);obtain⟨Bb,T⟩:∃Bb,w3.heap.size=Bb:=⟨_,rfl⟩;have jq:(q:Int)<4:=by omega
     rw[T]at kb;have⟨M,s,y,ag,a1,Y,ad⟩:=hyd7 g c i z kb X ac;clear ac X kb z i c g;gi_wp2;clear av ag T;gi_loopw [17] (λbx wu=>∃b:Nat,b<=2/\bx= .int .i64 (b:Int)/\Hid (J (qBG path (8*f+2*q+b)) wu/\KeepX W wu/\wu.heap[Bb]? =some (.cells #[.bool false,.bool true] 4))) (λbx _=>2 - (intOf bx).toNat)
     case atStart=>exact⟨0,Nat.zero_le _,rfl,Lib.hid ⟨Y.out,ad.out,a1.out⟩⟩
     case round=>
      obtain⟨b,hb,rfl,h⟩:=hrel
      by_cases ax:b<2
      ·obtain⟨d,j,o⟩:=h.out;rename World=>w4
       have cp:=qAO (j.tag _ _ _ am.out a4.out);obtain⟨B,S⟩:∃B,(b==1)=B:=⟨_,rfl⟩
       have cb:w4.cell? ⟨Bb,b,none⟩=some (.bool B):=by
        obtain⟨e0,e1⟩:=pc2 o
        rcases(show b=0∨b=1 by omega)with rfl|rfl
        ·rw[e0,<-S];rfl
        ·rw[e1,<-S];rfl
       have hx:=qR0 path f q b ay ax;rw[S]at hx;have jb:(b:Int)<2:=by omega
       have aO:(0:Int)<=(b:Int):=by omega
       have G:8*f+2*q+b<8*n:=by omega
       obtain⟨fn,aD,ao,a6,hy,hR⟩:=aw.out (qBG path (8*f+2*q+b)) ⟨path,f,q,B⟩ w4 d ⟨by rw[qDp,hx],by rw[qDp];exact G⟩ (by rw[qDp];exact G);have Q:qBG path (8*f+2*q+b)++[(⟨path,f,q,B⟩:Tra)]=qBG path (8*f+2*q+(b+1)):=by rw[show 8*f+2*q+(b+1)=8*f+2*q+b+1 by omega,qI7,hx]
       have H:qBG path (8*f+2*q+(b+1))<+:qBG path (8*n):=qPU path (by omega);rw[Q]at hR;dsimp only[qNy,traV]at hy;have⟨N,t,k,L,aJ,aM,aA,P⟩:=hyd8 h d j o S hx Q H;clear H Q hx S o j d h;gi_wp2;refine hR.mono ?_;rintro e W3 ⟨C,(⟨rfl,U,A⟩| ⟨rfl,D⟩)⟩
       ·have ae:=k.out.trans A;have aj:=A.tag _ _ _ L.out a3.out;have⟨ah,V,a9,af,ak⟩:=hyd5 C U A ae aj;clear aj ae A U C;gi_wp2;go_roundw
        case rel=>exact⟨b+1,by omega,by go_num,Lib.hid ⟨V.out,af.out,ak.out⟩⟩
        case measure=>simp[intOf];omega
       ·have⟨ah,O⟩:=hyd2 C D;clear D C;gi_wp2;refine bodyPost_ret (results_none rfl _ _ _) rfl ?_;exact⟨⟨_,rfl⟩,.inr ⟨_,P.out,O.out⟩⟩
      ·obtain rfl:b=2:=by omega
       obtain⟨d,j,o⟩:=h.out;have⟨N,t,k,L⟩:=hyd4 h d j o;clear o j d h;gi_wp2;go_roundw
       case rel=>exact⟨q+1,by omega,by go_num,Lib.hid ⟨by rw[show 8*f+2*(q+1)=8*f+2*q+2 by omega];exact t.out,k.out⟩⟩
       case measure=>simp[intOf];omega
    ·obtain rfl:q=4:=by omega
     obtain⟨c,i⟩:=g.out;have⟨M,s,y⟩:=hyd3 g c i;clear i c g;gi_wp2;go_roundw
     case rel=>exact⟨f+1,by omega,by go_num,Lib.hid ⟨by rw[show 8*(f+1)=8*f+2*4 by omega];exact s.out,y.out⟩⟩
     case measure=>simp[intOf];omega
  ·obtain rfl:f=n:=by omega
   obtain⟨p,v⟩:=m.out;have⟨ab,r,F⟩:=hyd3 m p v;clear v p m;gi_wp2;go_end0;exact⟨⟨_,rfl⟩,.inl ⟨_,rfl,r.out⟩⟩
end Go.Proofs.YtabfaobakmjiaaaGreat
