/- Polynomials, the reference: Divided. (The regions between --@ARM and --@END are printed by gen_polyr.py.) -/
import Derived.Test.YtcoajjdhkhgfdaaPk37
namespace Go.Proofs.Ytcoajjdhkhgfdaa
set_option maxRecDepth 100000
set_option maxHeartbeats 4000000
open Go.RowKit Go.Shelf
set_option linter.unusedVariables false
set_option linter.unusedSimpArgs false
theorem RowE.emp {α:Type} {K:EK α} {e:TypeId} {base:Nat} {w:World} {g:Nat} (h:w.heap[g]? =some (.cells #[] e)) (hb:base<=g):RowE K e base w (.slice (some ⟨g,0,none⟩) 0 0) []:=
 ⟨[],rfl,⟨by simp,.inr ⟨g,0,#[],rfl,hb,h,Nat.le_refl _,by decide,by simp,by simp⟩⟩,λg' cur t hg hc u hu=>by
  have e1:g=g':=by simpa[Value.ownBlock]using hg
  subst e1;rw[h]at hc;injection hc with hc;injection hc with hc1 hc2;subst hc1
  simp at hu,λj h=>absurd h (Nat.not_lt_zero _)⟩
theorem RowE.appendL {α:Type} {K:EK α} {P:Program} {e:TypeId} {base base2:Nat} {w:World} {v vy:Value} {xs ys:List α} (h:RowE K e base w v xs) (hy:RowE K e base2 w vy ys) (h0:0<ys.length) {ops:Array Oper} {rest:List Oper} {o:Oper} {a:Act} {Q:Exit->Act->World->Prop} (hgd:o.guard=none) (s x:Operand) (t:TypeId)
  (ho:o.op= .call {callee:= .builtin .append,args:=#[s,x],argTypes:=#[t,t]}) (bytes:Nat) (z:Value) (hb8:bytes<=100) (ht:P.underlying t=some (.slice e)) (hinfo:(P.info? e).map (λi=>(i.zero,i.size,i.bytes))=some (some z,K.sz,bytes))
  (hzs:z.cells.size=K.sz) (hz:∀j,j<K.sz->NI K.ik z.cells[j]!) (hs:a.eval s=v) (hx:a.eval x=vy)
  (hlen:xs.length+ys.length<=1000000) (hbase:base<=w.heap.size)
  (hQ:∀v' w',RowE K e base w' v' (xs++ys)->Below base w w'->Kp K.ik w w'->(∀k,v'.ownBlock=some k->v.ownBlock=some k∨w.heap.size<=k)->w.grownBy w' v.ownBlock->wpList P ops Q rest (a.put o.dst v') w'):wpList P ops Q (o::rest) a w:=by
 obtain⟨i,S,E,F,G⟩:∃i,P.info? e=some i/\i.zero=some z/\i.size=K.sz/\i.bytes=bytes:=by
  cases hq:P.info? e with
  | none=>rw[hq]at hinfo;cases hinfo
  | some i=>
   rw[hq]at hinfo;simp only[Option.map_some,Option.some.injEq,Prod.mk.injEq]at hinfo;exact⟨i,rfl,hinfo.1,hinfo.2.1,hinfo.2.2⟩
 have D:=h;obtain⟨n,I,J,O,R⟩:=h;obtain⟨H,M,rfl,-⟩:=hy.at h0;obtain⟨b,y,N,d3,q⟩:=hy;have A:=qFT y q
 have d:∀u∈b.flatten,∃(j:Nat) (c:j<ys.length),u∈b.getD j []:=λu f=>by
  rw[List.mem_flatten]at f;obtain⟨l,T,f⟩:=f;obtain⟨j,c,rfl⟩:=List.getElem_of_mem T;exact⟨j,by omega,by rw[List.getD_eq_getElem?_getD,List.getElem?_eq_getElem c];exact f⟩
 refine qDN (NI K.ik) w hgd s x t ho base e i z K.sz bytes ht S E F G hzs K.pos v xs.length n.flatten hs J ⟨H,0,none⟩ ys.length M b.flatten hx (by rw[qCY b A,y]) (N.cells (g:=H) rfl)
  (λu f=>by obtain⟨j,c,C⟩:=d u f;exact K.one (q j c) u C) (by unfold maxLen;omega) (Nat.le_trans (Nat.mul_le_mul hlen hb8) (by decide)) hbase h0 (λu f=>by obtain⟨j,c,C⟩:=d u f;exact K.ni (q j c) u C) hz O ?_
 intro v' w' X q2 Y Z q5
 have m:Kp K.ik w w':=Kp.grown q2 λg L U=>by
  obtain⟨r,q6,q7⟩:=q5 g L;exact⟨(D.nib L).2.2,r,e,q6,q7⟩
 refine hQ v' w' ⟨n++b,by simp[I,y],?_,Z,λj c=>?_⟩ (Below.grown (Below.refl _ _) q2 hbase (λk e=>(J.lt k e).1)) m Y q2
 ·rw[List.flatten_append,List.length_append];exact X
 ·by_cases p:j<xs.length
  ·have:=K.kp (R j p) m;rw[List.getD_eq_getElem?_getD]at this ⊢;rw[List.getElem?_append_left (by omega),List.getElem_append_left p];exact this
  ·have B:j - xs.length<ys.length:=by simp at c;omega
   have:=K.kp (q (j - xs.length) B) m;rw[List.getD_eq_getElem?_getD]at this ⊢;rw[List.getElem?_append_right (by omega),I,List.getElem_append_right (by omega)];exact this
structure DivQ (w:World) (bq gp np cp gq mo:Nat) (vQ:Value) (Q P:List Rat) (os:List (Option Rat)) (W:World):Prop where
 below:Below w.heap.size w W
 p:RowE (ratK .i64) 63 w.heap.size W (.slice (some ⟨gp,0,none⟩) np cp) P
 o:RowE (ratO .i64) 63 w.heap.size W (.slice (some ⟨gq,0,none⟩) mo mo) os
 q:RowE (ratK .i64) 63 bq W vQ Q
section
variable {w:World} {bq gp np cp gq mo:Nat} {vQ:Value} {Q P:List Rat} {os:List (Option Rat)} {W V:World}
theorem DivQ.le (h:DivQ w bq gp np cp gq mo vQ Q P os W) (hb:Le W V):DivQ w bq gp np cp gq mo vQ Q P os V:=
 ⟨h.below.trans (hb.mono h.below.size),h.p.le hb,h.o.le hb,h.q.le hb⟩
theorem DivQ.storeP (h:DivQ w bq gp np cp gq mo vQ Q P os W) (hpq:gp≠gq) (hQ:∀b,vQ.ownBlock=some b->b<w.heap.size) {j:Nat} (hj:j<P.length)
  {s:Bool} {A B:Option Addr} {a c b d:Nat} {r:Rat} (hr:RatL (λ_=>True) .i64 W (.agg #[.bool s,.slice A a c,.slice B b d]) r):
  DivQ w bq gp np cp gq mo vQ Q (P.set j r) os (((W.setCell ⟨gp,j*3,none⟩ (.bool s)).setCell ⟨gp,j*3+1,none⟩ (.slice A a c)).setCell ⟨gp,j*3+2,none⟩ (.slice B b d))/\(∀q,q≠gp->(((W.setCell ⟨gp,j*3,none⟩ (.bool s)).setCell ⟨gp,j*3+1,none⟩ (.slice A a c)).setCell ⟨gp,j*3+2,none⟩ (.slice B b d)).heap[q]? =W.heap[q]?)/\Kp .i64 W (((W.setCell ⟨gp,j*3,none⟩ (.bool s)).setCell ⟨gp,j*3+1,none⟩ (.slice A a c)).setCell ⟨gp,j*3+2,none⟩ (.slice B b d)):=by
 have k:=(h.p.nib (g:=gp) rfl).1;have f:=RowE.store h.p (i:=j) hj (cs:=[.bool s,.slice A a c,.slice B b d]) (y:=r) ⟨_,_,_,_,_,_,_,rfl,hr⟩;have l:∀q,q≠gp->(W.setCells gp (j*3) [.bool s,.slice A a c,.slice B b d]).heap[q]? =W.heap[q]? :=λq hq=>qBH hq _ _ _;exact⟨⟨qAu k [.bool s,.slice A a c,.slice B b d] (j*3) _ _ h.below,f.1,h.o.keep f.2 (λq hq=>l q (by have e:gq=q:=(by simpa[Value.ownBlock]using hq);subst e;exact Ne.symm hpq)),h.q.keep f.2 λq hq=>l q (by have:=hQ q hq;omega)⟩,l,f.2⟩
theorem DivQ.storeO (h:DivQ w bq gp np cp gq mo vQ Q P os W) (hpq:gp≠gq) (hQ:∀b,vQ.ownBlock=some b->b<w.heap.size) {j:Nat} (hj:j<os.length)
  {s:Bool} {A B:Option Addr} {a c b d:Nat} {r:Rat} (hr:RatL (λ_=>True) .i64 W (.agg #[.bool s,.slice A a c,.slice B b d]) r):
  DivQ w bq gp np cp gq mo vQ Q P (os.set j (some r)) (((W.setCell ⟨gq,j*3,none⟩ (.bool s)).setCell ⟨gq,j*3+1,none⟩ (.slice A a c)).setCell ⟨gq,j*3+2,none⟩ (.slice B b d))/\(∀q,q≠gq->(((W.setCell ⟨gq,j*3,none⟩ (.bool s)).setCell ⟨gq,j*3+1,none⟩ (.slice A a c)).setCell ⟨gq,j*3+2,none⟩ (.slice B b d)).heap[q]? =W.heap[q]?)/\Kp .i64 W (((W.setCell ⟨gq,j*3,none⟩ (.bool s)).setCell ⟨gq,j*3+1,none⟩ (.slice A a c)).setCell ⟨gq,j*3+2,none⟩ (.slice B b d)):=by
 have k:=(h.o.nib (g:=gq) rfl).1;have f:=RowE.store h.o (i:=j) hj (cs:=[.bool s,.slice A a c,.slice B b d]) (y:=some r) ⟨_,_,_,_,_,_,_,rfl,hr⟩;have l:∀q,q≠gq->(W.setCells gq (j*3) [.bool s,.slice A a c,.slice B b d]).heap[q]? =W.heap[q]? :=λq hq=>qBH hq _ _ _;exact⟨⟨qAu k [.bool s,.slice A a c,.slice B b d] (j*3) _ _ h.below,h.p.keep f.2 (λq hq=>l q (by have e:gp=q:=(by simpa[Value.ownBlock]using hq);subst e;exact hpq)),f.1,h.q.keep f.2 λq hq=>l q (by have:=hQ q hq;omega)⟩,l,f.2⟩
end
def MPred.boxZ (n:Nat):MPred:=⟨λv W=>∃B,v= .pointer (some ⟨B,0,none⟩)/\n<=B/\W.heap[B]? =some (.cells #[.bool false,.slice none 0 0,.slice none 0 0] 63),
 λ_ _ _ hb ⟨B,e,h1,k⟩=>⟨B,e,h1,(hb.block B (gsl k)).trans k⟩⟩
def qEa (w:World) (base:Nat) (P Q:List Rat) (e:Ending) (w':World):Prop:=
 ∃va vr,e= .returned (.tuple #[va,vr])/\Le w w'/\RowE (ratK .i64) 63 w.heap.size w' va (qAj P Q)/\RowE (ratK .i64) 63 base w' vr (qAI P Q)
theorem qEg (base bq:Nat) (vP vQ:Value) (P Q:List Rat) (w:World) (hP:RowE (ratK .i64) 63 base w vP P) (hQ:RowE (ratK .i64) 63 bq w vQ Q) (hbase:base<=w.heap.size)
  (hQ0:0<Q.length) (hQt:Q.getD (Q.length - 1) 0≠0) (hlP:P.length<=1000) (hlQ:Q.length<=1000) (hsQ:∀r∈Q,Rsz r 2000000) (hsP:∀s,s<=P.length - Q.length+1->∀r∈divS P Q (P.length - Q.length) s,Rsz r 2000000) (hsM:Q.length<=P.length->∀s,s<=P.length - Q.length->∀k,Rsz (divC (divS P Q (P.length - Q.length) s) Q (P.length - Q.length - s)*Q.getD k 0) 2000000):
  Calls Try.prog 59 #[vP,vQ] w (qEa w base P Q):=by
 obtain⟨AP,cP,rfl⟩:=hP.slice;obtain⟨AQ,cQ,rfl⟩:=hQ.slice;obtain⟨np,J⟩:∃n,P.length=n:=⟨_,rfl⟩;obtain⟨nq,U⟩:∃n,Q.length=n:=⟨_,rfl⟩;rw[J]at hP hlP ⊢;rw[U]at hQ hQ0 hQt hlQ ⊢;have O:=qFD
 by_cases bm:np<nq
 ·have d:qAj P Q=[]:=by unfold qAj;rw[J,U,if_pos bm]
  have e2:qAI P Q=P:=by unfold qAI;rw[J,U,if_pos bm]
  have ac:qEa w base P Q (.returned (.tuple #[.slice none 0 0,.slice AP np cP])) w:=⟨_,_,rfl,Below.refl _ _,by rw[d];exact RowE.nil _ _ _ _,by rw[e2];exact hP⟩;have j1:(np:Int)<(nq:Int):=by omega
  clear hsM;have⟨dR,cC,ak,b8,aR,aQ,S,F⟩:=hyd8 hP hQ ac hQt hsQ hsP O J;have⟨C,dO,fI⟩:=hyd3 U d e2;clear e2 d U J O hsP hsQ hQt ac hQ hP;go_enter Try.func59,Try.ntmps59;go_wp2;exact bodyPost_ret (v:= .tuple #[.slice none 0 0,.slice AP np cP]) (by simp[results,Try.results59,go_sem]) rfl ak.out
 ·obtain⟨m,hm⟩:∃m,np - nq=m:=⟨_,rfl⟩;rw[J,U,hm]at hsP;have aP:=hsM (by omega);rw[J,U,hm]at aP;clear hsM;have cD:∀b,(Value.slice AQ nq cQ).ownBlock =some b->b<w.heap.size:=λb hb=>(hQ.nib hb).2.1;obtain⟨W1,dS,bg,k1⟩:=enew w (.cells #[] 63);have bF:RowE (ratK .i64) 63 w.heap.size W1 (.slice (some ⟨w.heap.size,0,none⟩) 0 0) []:=RowE.emp k1 (Nat.le_refl _);have cA:=hP.le bg;have db:0<P.length:=by omega
  have ec:w.heap.size<=W1.heap.size:=bg.size;have cY:∀s,s<=m->(divS P Q m s).length =np:=λs _=>(qBY P Q m s).trans J;have j1:¬(np:Int)<(nq:Int):=by omega
  have j2:(np:Int) - (nq:Int)=(m:Int):=by omega
  obtain⟨mo,da⟩:∃k,m+1=k:=⟨_,rfl⟩;have j3:(m:Int)+1=(mo:Int):=by omega
  have fO:mo<=2000:=by omega
  have fN:0<mo:=by omega
  have⟨dR,cC,b8,aR,aQ,cg,S,F⟩:=hyd8 hP hQ hQt hsQ hsP aP O J;have⟨C,cZ,b7,bG,cI,gb,aI,cB⟩:=hyd8 U cY cD da bg k1 bF cA;have bH:=hyd1 db;clear db cA bF k1 bg da cD cY U J O aP hsP hsQ hQt hQ hP;go_enter Try.func59,Try.ntmps59;go_wp2_with (first | (at_builtin;go_must (refine RowE.appendL aI.out cB.out bH.out rfl _ _ 51 rfl 56 (.agg #[.bool false,.slice none 0 0,.slice none 0 0]) (by decide) Try.underlying51 S.out rfl qD1 rfl rfl (by have:=F.out;simp;omega) ec ?_)));intro v2 W2 q1 q2 q3 q4 q5;clear dS aI;obtain⟨A2,c2,rfl⟩:=q1.slice;rw[F.out]at q1 ⊢
  obtain⟨gp,dQ⟩:∃g,A2=some ⟨g,0,none⟩:=by
   obtain⟨g,c,d,-⟩:=q1.at (j:=0) bH.out;injection d with d;exact⟨g,d⟩
  subst dQ;have bS:Below w.heap.size w W2:=cI.out.trans q2;have ed:w.heap.size<=W2.heap.size:=bS.size;have bk:=q1.nib (g:=gp) rfl;have eY:=bk.2.1;have fa:=bk.1;have⟨d6,aE,ek,el,em,eX⟩:=hyd6 q1 bS q3 q4 q5 bk;clear bk q5 q4 q3 bS q1;clear q2 ek el em;go_wp2_with (at_make;go_must (refine qEy (k:= .i64) _ rfl _ _ 51 rfl w.heap.size 63 56 Try.underlying51 S.out (by decide) mo (by go_num) (by go_num) (by omega) ed ?_);intro W0 o1 o2 o3;have dz:=Lib.hid o1;have co:=Lib.hid o2;clear o1 o2);obtain⟨gq,bl⟩:∃g,W2.heap.size=g:=⟨_,rfl⟩;have N:Below w.heap.size w W0:=aE.out.trans (co.out.mono aE.out.size);have bJ:DivQ w bq gp np c2 gq mo (.slice AQ nq cQ) Q (divS P Q m 0) (qAn P Q m 0) W0:=⟨N,d6.out.le co.out,by rw[qGX,<-bl,bG.out];exact dz.out,cC.out.le N⟩;have dd:gp≠gq:=by omega
  rw[bl];have⟨cj,fb,bA,bI⟩:=hyd4 bJ bl N dd;clear dd N bl bJ;clear dz co o3 aE d6;rename World=>wz
  go_loopw [9] (λi wr=>∃s:Nat,i= .int .i64 ((m:Int) - (s:Int))/\s<=m+1/\Hid (DivQ w bq gp np c2 gq mo (.slice AQ nq cQ) Q (divS P Q m s) (qAn P Q m s) wr)) (λi _=>(intOf i+1).toNat)
  case atStart=>exact⟨0,by simp,Nat.zero_le _,cj⟩
  case round=>
   obtain⟨s,rfl,hs,af⟩:=hrel
   by_cases aL:s<=m
   ·obtain⟨i,hi⟩:∃i,m - s=i:=⟨_,rfl⟩;have x:(m:Int) - (s:Int)=(i:Int):=by omega
    rw[x];have ad:(divS P Q m s).length =np:=cZ.out s aL;obtain⟨Ps,aC⟩:∃l,divS P Q m s=l:=⟨_,rfl⟩
    have T:divS P Q m (s+1)=subK Ps Q i (divC Ps Q i) nq:=by
     show subK (divS P Q m s) Q (m - s) (divC (divS P Q m s) Q (m - s)) Q.length=_
     rw[aC,hi,C.out]
    have X:=qHM (P:=P) (q:=Q) aL;have a6:=aQ.out s hs;have ax:=cg.out s aL;have a4:=aQ.out (s+1) (by omega);simp only[aC,hi]at X a6 ad ax;rw[T]at a4;have E:=af.out;rw[aC]at E;obtain⟨c,bi⟩:∃c,divC Ps Q i=c:=⟨_,rfl⟩;rw[bi]at T X a4 ax;obtain⟨t,ht⟩:∃t,i+nq - 1=t:=⟨_,rfl⟩;have aV:t<Ps.length:=by rw[ad];omega
    obtain⟨g1,fE,d,-,bY,-,-,cs,D,aH⟩:=E.p.at aV;rw[ad]at d;injection d with d e2 e3;injection d with d;injection d with d;subst d e3;clear e2;have bx:Ps.getD t 0=Ps[t]:=by rw[List.getD_eq_getElem?_getD,List.getElem?_eq_getElem aV];rfl
    have bs:Rsz Ps[t] 2000000:=a6 _ (List.getElem_mem aV);generalize Ps[t]=a at D bx bs;obtain⟨s1,A1,n1,d1,B1,m1,f1,rfl,cG⟩:=D;have cc:nq - 1<Q.length:=by rw[C.out];omega
    obtain⟨g2,fF,d,-,bZ,-,-,cs,D,a9⟩:=E.q.at cc;rw[C.out]at d;injection d with d e2 e3;subst d e3;clear e2;have aN:Q.getD (nq - 1) 0=Q[nq - 1]:=by rw[List.getD_eq_getElem?_getD,List.getElem?_eq_getElem cc];rfl
    have bt:Rsz Q[nq - 1] 2000000:=aR.out _ (List.getElem_mem cc);have N:Q[nq - 1]≠0:=by rw[<-aN];exact b8.out
    generalize Q[nq - 1]=b at D aN bt N;obtain⟨s2,A2,n2,d2,B2,m2,f2,rfl,cJ⟩:=D;have aG:c=a / b:=by rw[<-bi,<-bx,<-aN];unfold divC;rw[C.out,ht]
    have bK:Rsz c 4000000:=by rw[aG];exact qHz N bs bt
    obtain⟨l9,ce⟩:∃l,nq - 1=l:=⟨_,rfl⟩;rw[ce]at a9;have x0:wr.cell? ⟨gp,t*3,none⟩=some (.bool s1):=aH 0 _ rfl;have x1:wr.cell? ⟨gp,t*3+1,none⟩=some (.slice A1 n1 d1):=aH 1 _ rfl;have x2:wr.cell? ⟨gp,t*3+2,none⟩=some (.slice B1 m1 f1):=aH 2 _ rfl;have z0:wr.cell? ⟨g2,l9*3,none⟩=some (.bool s2):=a9 0 _ rfl;have z1:wr.cell? ⟨g2,l9*3+1,none⟩=some (.slice A2 n2 d2):=a9 1 _ rfl;have z2:wr.cell? ⟨g2,l9*3+2,none⟩=some (.slice B2 m2 f2):=a9 2 _ rfl;have cb:i<(qAn P Q m s).length :=by rw[qDf];omega
    obtain⟨u0,u1,u2,dm,dp,dr⟩:∃u0 u1 u2,wr.cell? ⟨gq,i*3,none⟩=some u0/\wr.cell? ⟨gq,i*3+1,none⟩=some u1/\wr.cell? ⟨gq,i*3+2,none⟩=some u2:=by
     obtain⟨g',c',d,-,-,-,-,cs,D,hc⟩:=E.o.at cb;injection d with d e2 e3;injection d with d;injection d with d;subst d;have hl:=(ratO .i64).len D
     match cs,hl with
     | [a0,a1,a2],_=>exact⟨a0,a1,a2,hc 0 _ rfl,hc 1 _ rfl,hc 2 _ rfl⟩
    have aJ:=(E.o.nib (g:=gq) rfl).2.1;have eZ:=(E.p.nib (g:=gp) rfl).2.1;have fS:w.heap.size<=wr.heap.size:=E.below.size;obtain⟨t1,dl⟩:∃k,i+nq=k:=⟨_,rfl⟩;have j4:(i:Int)+(nq:Int)=(t1:Int):=by omega
    have j5:(t1:Int) - 1=(t:Int):=by omega
    have ga:t1<=2000:=by omega
    have j6:(nq:Int) - 1=(l9:Int):=by omega
    have j7:(t:Int)<(np:Int):=by omega
    have j8:(l9:Int)<(nq:Int):=by omega
    have j9:(i:Int)<(mo:Int):=by have:=bG.out;omega
    have fU:(0:Int)<=(i:Int):=by omega
    have fV:(0:Int)<=(t:Int):=by omega
    have fW:(0:Int)<=(l9:Int):=by omega
    have fL:i+nq<=np:=by omega
    clear af;have⟨al,eO,bo,bp,cm,dZ,ch,H⟩:=hyd8 ad aC T X a6 a4 ax E;have⟨eS,fR,fg,cH,cK,ff,fd,di⟩:=hyd8 bi ht aV cG cJ bx aN bs;have⟨dj,bA,bU,ck,fc,b2,b3,b4⟩:=hyd8 bt N aG bK ce x0 x1 x2;have⟨cr,ct,cu,cR,dn,dq,ds,eU⟩:=hyd8 z0 z1 z2 cb dm dp dr aH;have⟨eV,dV,c8,eg,eh,ei,fe⟩:=hyd7 a9 hi x j4 j5 j6 dl;clear dl j6 j5 j4 x hi a9 aH dr dp dm cb z2 z1 z0 x2 x1 x0 ce bK aG N bt bs aN bx cJ cG aV ht bi E ax a4 a6 X T aC ad;go_wp2_with (fail);refine qAV (R:=leRel) 14 [some 36,some 37,some 38,some 39,some 40,some 41,some 42,some 43,some 44,some 45,some 46,some 47,some 48,some 10,none] [[],[],[],[1,2],[3],[0,4],[5],[],[],[8],[7,9],[10],[6,11],[],[12,13]]
     [.eq (.slice (some ⟨gp,0,none⟩) np c2),.eq (.int .i64 (i:Int)),.eq (.int .i64 (nq:Int)),.eq (.int .i64 (t1:Int)),.eq (.int .i64 (t:Int)),.eq (.pointer (some ⟨gp,t*3,none⟩)),.eq (.agg #[.bool s1,.slice A1 n1 d1,.slice B1 m1 f1]),.eq (.slice (some ⟨g2,0,none⟩) nq cQ),.eq (.int .i64 (nq:Int)),.eq (.int .i64 (l9:Int)),.eq (.pointer (some ⟨g2,l9*3,none⟩)),.eq (.agg #[.bool s2,.slice A2 n2 d2,.slice B2 m2 f2]),MPred.ratW (a / b),MPred.boxZ wr.heap.size] (λ_ _=>False) (by kernel_rfl) (by kernel_rfl) (by kernel_rfl) (by kernel_rfl) (by kernel_rfl) ?_ (λ_ _ _ _ h=>h.elim) ?_
    ·simp only[List.take_succ_cons,List.take_zero];refine sMc rfl ?_ (sMc rfl ?_ (sMc rfl ?_ (sMc rfl ?_ (sMc rfl ?_ (sMc rfl ?_ (sMc rfl ?_ (sMc rfl ?_ (sMc rfl ?_ (sMc rfl ?_ (sMc rfl ?_ (sMc rfl ?_ (sMc rfl ?_ (sMc rfl ?_ (qA2))))))))))))))
     ·intro A W f z Q hK hP;simp only[fA]at hK ⊢;go_wp2;exact hK _ _ lrR rfl
     ·intro A W f z Q hK hP;simp only[fA]at hK ⊢;go_wp2;exact hK _ _ lrR rfl
     ·intro A W f z Q hK hP;simp only[fA]at hK ⊢;go_wp2;exact hK _ _ lrR rfl
     ·intro A W f z Q hK hP;obtain⟨x,d,-⟩:=z;change _=_ at x d;have jj:=eg.out;simp only[fA,x,d]at hK ⊢;go_wp2;exact hK _ _ lrR (by show Value.int _ _=Value.int _ _;congr 1)
     ·intro A W f z Q hK hP;obtain⟨x,-⟩:=z;change _=_ at x;have jj:=eh.out;simp only[fA,x]at hK ⊢;go_wp2;exact hK _ _ lrR (by show Value.int _ _=Value.int _ _;congr 1)
     ·intro A W f z Q hK hP;obtain⟨x,d,-⟩:=z;change _=_ at x d;simp only[fA,x,d]at hK ⊢;go_wp2;exact hK _ _ lrR rfl
     ·intro A W f z Q hK hP;obtain⟨x,-⟩:=z;change _=_ at x;have t0:=(Below.cell f (p:=⟨gp,t*3,none⟩) bY).trans b2.out;have t1:=(Below.cell f (p:=⟨gp,t*3+1,none⟩) bY).trans b3.out;have t2:=(Below.cell f (p:=⟨gp,t*3+2,none⟩) bY).trans b4.out;simp only[fA,x]at hK ⊢;go_wp2;exact hK _ _ lrR rfl
     ·intro A W f z Q hK hP;simp only[fA]at hK ⊢;go_wp2;exact hK _ _ lrR rfl
     ·intro A W f z Q hK hP;simp only[fA]at hK ⊢;go_wp2;exact hK _ _ lrR rfl
     ·intro A W f z Q hK hP;obtain⟨x,-⟩:=z;change _=_ at x;have jj:=ei.out;simp only[fA,x]at hK ⊢;go_wp2;exact hK _ _ lrR (by show Value.int _ _=Value.int _ _;congr 1)
     ·intro A W f z Q hK hP;obtain⟨x,d,-⟩:=z;change _=_ at x d;simp only[fA,x,d]at hK ⊢;go_wp2;exact hK _ _ lrR rfl
     ·intro A W f z Q hK hP;obtain⟨x,-⟩:=z;change _=_ at x;have t0:=(Below.cell f (p:=⟨g2,l9*3,none⟩) bZ).trans cr.out;have t1:=(Below.cell f (p:=⟨g2,l9*3+1,none⟩) bZ).trans ct.out;have t2:=(Below.cell f (p:=⟨g2,l9*3+2,none⟩) bZ).trans cu.out;simp only[fA,x]at hK ⊢;go_wp2;exact hK _ _ lrR rfl
     ·intro A W f z Q hK hP;obtain⟨x,d,-⟩:=z;change _=_ at x d;simp only[fA,x,d]at hK ⊢;have kc:=qEv (λ_=>True) a b _ _ W (Up.any _) (cH.out.le f) (cK.out.le f) (qA0 di.out (by decide)) (qA0 dj.out (by decide)) bA.out;have ao:=hyd1 kc;clear kc;go_wp2_with (fail);go_at_call 58;refine ao.out.mono ?_;rintro e w' ⟨v',rfl,y1,L⟩;obtain⟨vs,vA,vn,vc,vB,vm,vd,rfl⟩:=L.frm;have⟨aq,ar⟩:=hyd2 y1 L;clear L y1;go_wp2;exact hK _ _ aq.out ar.out
     ·intro A W f z Q hK hP;simp only[fA]at hK ⊢;go_wp2;exact hK _ _ (alc1 _ _) ⟨_,rfl,f.size,heap_alloc_new _ _⟩
    intro A W f z Q' aD _;have ai:RatL (λ_=>True) .i64 W (A 12) (a / b):=z 12 (by decide);obtain⟨s3,A3,n3,c3,B3,m3,d3,qv⟩:=ai.frm;obtain⟨bc,c9,dT,an⟩:∃B,A 13= .pointer (some ⟨B,0,none⟩)/\wr.heap.size<=B/\W.heap[B]? =some (.cells #[.bool false,.slice none 0 0,.slice none 0 0] 63):=z 13 (by decide);simp only[List.drop_succ_cons,List.drop_zero];rw[show List.range 14=[0,1,2,3,4,5,6,7,8,9,10,11,12,13]from rfl];simp only[fA,qv,c9];clear z;rw[qv]at ai;clear qv c9;obtain⟨t0,t1,t2,y0,y1,L⟩:=qAB an;have⟨b5,a7,bM⟩:=hyd3 ai f an;clear an f ai;go_wp2;refine aD _ _ ?_;clear aD t0 t1 t2 y0 y1 L;have ai:=b5.out;have f:=a7.out;have an:=bM.out;clear b5 a7 bM;obtain⟨u1,u2,d0,d1,d2⟩:=qL4 f dT an (qAO _) (qAF _ _ _) (qAF _ _ _) ai;have kV:=qAR (u0:= .bool s3) (u1:= .slice A3 n3 c3) (u2:= .slice B3 m3 d3) an;rw[<-bU.out]at u2;obtain⟨V,hV⟩:∃V,((W.setCell ⟨bc,0,none⟩ (.bool s3)).setCell ⟨bc,1,none⟩ (.slice A3 n3 c3)).setCell ⟨bc,2,none⟩ (.slice B3 m3 d3)=V:=⟨_,rfl⟩;rw[hV]at u1 u2 d0 d1 d2 kV ⊢;clear hV an ai f;have aA:=(H.out.le u1).storeO bI.out b7.out cR.out u2;rw[bp.out]at aA;have aF:bc≠gq:=by omega
    have bB:bc≠gp:=by omega
    have aj:=gsl kV;have t0:=(Below.cell u1 (p:=⟨gq,i*3,none⟩) aJ).trans dn.out;have t1:=(Below.cell u1 (p:=⟨gq,i*3+1,none⟩) aJ).trans dq.out;have t2:=(Below.cell u1 (p:=⟨gq,i*3+2,none⟩) aJ).trans ds.out;have y0:=(H.out.o.le u1).frz (i*3);have y1:=(H.out.o.le u1).frz (i*3+1);have L:=(H.out.o.le u1).frz (i*3+2);obtain⟨V2,cE⟩:∃V2,((V.setCell ⟨gq,i*3,none⟩ (.bool s3)).setCell ⟨gq,i*3+1,none⟩ (.slice A3 n3 c3)).setCell ⟨gq,i*3+2,none⟩ (.slice B3 m3 d3)=V2:=⟨_,rfl⟩;rw[cE]at aA;have df:DivQ w bq gp np c2 gq mo (.slice (some ⟨g2,0,none⟩) nq cQ) Q (subK Ps Q i c 0) (qAn P Q m (s+1)) V2:=by rw[qHL];exact aA.1
    have dx:V2.heap[bc]? =some (.cells #[.bool s3,.slice A3 n3 c3,.slice B3 m3 d3] 63):=(aA.2.1 bc aF).trans kV;have cL:RatL (λ_=>True) .i64 V2 (.agg #[.bool s3,.slice A3 n3 c3,.slice B3 m3 d3]) c:=u2.kp aA.2.2;clear aA;have⟨gh,gi,gc,dh,dy,cM,dU,bT⟩:=hyd8 u1 u2 kV df dx cL aF bB;have eR:=hyd1 aj;clear aj bB aF cL dx df kV u2 u1;clear H;go_wp2_with (fail);clear t0 t1 t2 y0 y1 L d0 d1 d2;clear cE;rename World=>wy
    go_loopw [11] (λi' wr=>∃q:Nat,i'= .int .i64 (q:Int)/\q<=nq/\Hid (DivQ w bq gp np c2 gq mo (.slice (some ⟨g2,0,none⟩) nq cQ) Q (subK Ps Q i c q) (qAn P Q m (s+1)) wr)/\Hid (wr.heap[bc]? =some (.cells #[.bool s3,.slice A3 n3 c3,.slice B3 m3 d3] 63))/\Hid (RatL (λ_=>True) .i64 wr (.agg #[.bool s3,.slice A3 n3 c3,.slice B3 m3 d3]) c)) (λi' _=>nq - (intOf i').toNat)
    case atStart=>exact⟨0,rfl,Nat.zero_le _,dh,dy,cM⟩
    case round=>
     obtain⟨q,rfl,fP,af,cV,bj⟩:=hrel
     by_cases de:q<nq
     ·have cf:q<Q.length:=by rw[C.out];exact de
      have az:=af.out;have aw:=cV.out;have bD:=bj.out;obtain⟨gy,cy,d,-,ca,-,-,cs,D,hc⟩:=az.q.at cf;rw[C.out]at d;injection d with d e2 e3;injection d with d;injection d with d;subst d e3;clear e2;have aW:Q.getD q 0=Q[q]:=by rw[List.getD_eq_getElem?_getD,List.getElem?_eq_getElem cf];rfl
      have a5:Rsz Q[q] 2000000:=aR.out _ (List.getElem_mem cf);generalize Q[q]=y at D aW a5;obtain⟨s5,A5,n5,c5,B5,m5,d5,rfl,dt⟩:=D;have z0:wr.cell? ⟨g2,q*3,none⟩=some (.bool s5):=hc 0 _ rfl;have z1:wr.cell? ⟨g2,q*3+1,none⟩=some (.slice A5 n5 c5):=hc 1 _ rfl;have z2:wr.cell? ⟨g2,q*3+2,none⟩=some (.slice B5 m5 d5):=hc 2 _ rfl;have aM:i+q<(subK Ps Q i c q).length :=by rw[qBz,al.out];omega
      obtain⟨gl,cl,d,-,M,-,-,cs,D,a8⟩:=az.p.at aM;rw[qBz,al.out]at d;injection d with d e2 e3;injection d with d;injection d with d;subst d;clear e2 e3;have bR:=qIs aM;have ae:=qIA (P:=Ps) (q:=Q) (i:=i) (c:=c) (k:=q) (by rw[al.out];omega);have a3:Rsz (Ps.getD (i+q) 0) 2000000:=qEJ cm.out (by decide) (i+q);rw[bR]at D;obtain⟨x9,cn⟩:∃l,Ps.getD (i+q) 0=l:=⟨_,rfl⟩;rw[cn]at D a3 ae;rw[aW]at ae;obtain⟨s4,A4,n4,c4,B4,m4,d4,rfl,cW⟩:=D;obtain⟨I,cS⟩:∃m,i+q=m:=⟨_,rfl⟩;rw[cS]at ae a8 aM;have x0:wr.cell? ⟨gp,I*3,none⟩=some (.bool s4):=a8 0 _ rfl;have x1:wr.cell? ⟨gp,I*3+1,none⟩=some (.slice A4 n4 c4):=a8 1 _ rfl;have x2:wr.cell? ⟨gp,I*3+2,none⟩=some (.slice B4 m4 d4):=a8 2 _ rfl;obtain⟨r0,r1,r2,-,-,-⟩:=qAB aw;have aj:=gsl aw;have bW:Rsz (c*y) 2000000:=by rw[<-aW];exact ch.out q
      have bE:=qLh bW;have aT:Rsz x9 2000000:=qA0 a3 (by decide);have aS:Rsz c 5000000:=qA0 ck.out (by decide);have aU:Rsz y 5000000:=qA0 a5 (by decide);have ef:(q:Int)<(nq:Int):=by omega
      have fX:(0:Int)<=(q:Int):=by omega
      have dv:(i:Int)+(q:Int)=(I:Int):=by omega
      have fY:(I:Int)<(np:Int):=by omega
      have fZ:(0:Int)<=(I:Int):=by omega
      have dH:I<1000:=by omega
      have bj:=bD;clear cS af cV bD;have⟨fi,ea,du,eQ,ci,dY,fh,cX⟩:=hyd8 aW a5 dt bR ae a3 cn cW;have⟨eW,bX,bv,bu,bw,b2,b3,b4⟩:=hyd8 bW bE aT aS aU x0 x1 x2;have⟨en,eo,ep,cr,ct,cu,fK,eT⟩:=hyd8 r0 r1 r2 z0 z1 z2 hc a8;have⟨dc,bL,Z,cd,bC⟩:=hyd5 aM dv az aw bj;clear bj aw az dv aM a8 hc z2 z1 z0 r2 r1 r0 x2 x1 x0 aU aS aT bE bW cW cn a3 ae bR dt a5 aW;go_wp2_with (fail);refine qAV (R:=leRel) 19 [some 58,some 59,some 60,some 61,some 62,some 63,some 64,some 65,some 66,some 67,some 68,some 69,some 70,some 71,some 72,some 73,some 74,some 75,some 76,none] [[],[],[],[1,2],[],[],[],[5,6],[4,7],[8],[],[],[],[11,12],[13],[10,14],[15],[9,16],[0,3],[17,18]]
       [.eq (.slice (some ⟨gp,0,none⟩) np c2),.eq (.int .i64 (i:Int)),.eq (.int .i64 (q:Int)),.eq (.int .i64 (I:Int)),.eq (.slice (some ⟨gp,0,none⟩) np c2),.eq (.int .i64 (i:Int)),.eq (.int .i64 (q:Int)),.eq (.int .i64 (I:Int)),.eq (.pointer (some ⟨gp,I*3,none⟩)),.eq (.agg #[.bool s4,.slice A4 n4 c4,.slice B4 m4 d4]),.eq (.agg #[.bool s3,.slice A3 n3 c3,.slice B3 m3 d3]),.eq (.slice (some ⟨g2,0,none⟩) nq cQ),.eq (.int .i64 (q:Int)),.eq (.pointer (some ⟨g2,q*3,none⟩)),.eq (.agg #[.bool s5,.slice A5 n5 c5,.slice B5 m5 d5]),MPred.ratW (c*y),MPred.ratW (-(c*y)),MPred.ratW (x9+ -(c*y)),.eq (.pointer (some ⟨gp,I*3,none⟩))] (λ_ _=>False) (by kernel_rfl) (by kernel_rfl) (by kernel_rfl) (by kernel_rfl) (by kernel_rfl) ?_ (λ_ _ _ _ h=>h.elim) ?_
      ·simp only[List.take_succ_cons,List.take_zero];refine sMc rfl ?_ (sMc rfl ?_ (sMc rfl ?_ (sMc rfl ?_ (sMc rfl ?_ (sMc rfl ?_ (sMc rfl ?_ (sMc rfl ?_ (sMc rfl ?_ (sMc rfl ?_ (sMc rfl ?_ (sMc rfl ?_ (sMc rfl ?_ (sMc rfl ?_ (sMc rfl ?_ (sMc rfl ?_ (sMc rfl ?_ (sMc rfl ?_ (sMc rfl ?_ (qA2)))))))))))))))))))
       ·intro A W f z Q hK hP;simp only[fA]at hK ⊢;go_wp2;exact hK _ _ lrR rfl
       ·intro A W f z Q hK hP;simp only[fA]at hK ⊢;go_wp2;exact hK _ _ lrR rfl
       ·intro A W f z Q hK hP;simp only[fA]at hK ⊢;go_wp2;exact hK _ _ lrR rfl
       ·intro A W f z Q hK hP;obtain⟨x,d,-⟩:=z;change _=_ at x d;have jj:=bL.out;simp only[fA,x,d]at hK ⊢;go_wp2;exact hK _ _ lrR (by show Value.int _ _=Value.int _ _;congr 1)
       ·intro A W f z Q hK hP;simp only[fA]at hK ⊢;go_wp2;exact hK _ _ lrR rfl
       ·intro A W f z Q hK hP;simp only[fA]at hK ⊢;go_wp2;exact hK _ _ lrR rfl
       ·intro A W f z Q hK hP;simp only[fA]at hK ⊢;go_wp2;exact hK _ _ lrR rfl
       ·intro A W f z Q hK hP;obtain⟨x,d,-⟩:=z;change _=_ at x d;have jj:=bL.out;simp only[fA,x,d]at hK ⊢;go_wp2;exact hK _ _ lrR (by show Value.int _ _=Value.int _ _;congr 1)
       ·intro A W f z Q hK hP;obtain⟨x,d,-⟩:=z;change _=_ at x d;simp only[fA,x,d]at hK ⊢;go_wp2;exact hK _ _ lrR rfl
       ·intro A W f z Q hK hP;obtain⟨x,-⟩:=z;change _=_ at x;have t0:=(Below.cell f (p:=⟨gp,I*3,none⟩) M).trans b2.out;have t1:=(Below.cell f (p:=⟨gp,I*3+1,none⟩) M).trans b3.out;have t2:=(Below.cell f (p:=⟨gp,I*3+2,none⟩) M).trans b4.out;simp only[fA,x]at hK ⊢;go_wp2;exact hK _ _ lrR rfl
       ·intro A W f z Q hK hP;have t0:=(Below.cell f (p:=⟨bc,0,none⟩) aj).trans en.out;have t1:=(Below.cell f (p:=⟨bc,1,none⟩) aj).trans eo.out;have t2:=(Below.cell f (p:=⟨bc,2,none⟩) aj).trans ep.out;simp only[fA]at hK ⊢;go_wp2;exact hK _ _ lrR rfl
       ·intro A W f z Q hK hP;simp only[fA]at hK ⊢;go_wp2;exact hK _ _ lrR rfl
       ·intro A W f z Q hK hP;simp only[fA]at hK ⊢;go_wp2;exact hK _ _ lrR rfl
       ·intro A W f z Q hK hP;obtain⟨x,d,-⟩:=z;change _=_ at x d;simp only[fA,x,d]at hK ⊢;go_wp2;exact hK _ _ lrR rfl
       ·intro A W f z Q hK hP;obtain⟨x,-⟩:=z;change _=_ at x;have t0:=(Below.cell f (p:=⟨g2,q*3,none⟩) ca).trans cr.out;have t1:=(Below.cell f (p:=⟨g2,q*3+1,none⟩) ca).trans ct.out;have t2:=(Below.cell f (p:=⟨g2,q*3+2,none⟩) ca).trans cu.out;simp only[fA,x]at hK ⊢;go_wp2;exact hK _ _ lrR rfl
       ·intro A W f z Q hK hP;obtain⟨x,d,-⟩:=z;change _=_ at x d;simp only[fA,x,d]at hK ⊢;have kc:=qE0 (λ_=>True) c y _ _ W (Up.any _) (bC.out.le f) (du.out.le f) bu.out bw.out;have ao:=hyd1 kc;clear kc;go_wp2_with (fail);go_at_call 87;refine ao.out.mono ?_;rintro e w' ⟨v',rfl,y1,L⟩;obtain⟨vs,vA,vn,vc,vB,vm,vd,rfl⟩:=L.frm;have⟨aq,ar⟩:=hyd2 y1 L;clear L y1;go_wp2;exact hK _ _ aq.out ar.out
       ·intro A W f z Q hK hP;obtain⟨x,-⟩:=z;replace x:RatL (λ_=>True) .i64 W (A 15) (c*y):=x;obtain⟨ws,wA,wn,wc,wB,wm,wd,qw⟩:=x.frm;rw[qw]at x;simp only[fA,qw]at hK ⊢;have kc:=qC1 (λ_=>True) (c*y) _ W x;have⟨ao,c8⟩:=hyd2 kc x;clear x kc;go_wp2_with (fail);go_at_call 56;refine ao.out.mono ?_;rintro e w' ⟨v',rfl,y1,L⟩;obtain⟨vs,vA,vn,vc,vB,vm,vd,rfl⟩:=L.frm;have⟨aq,ar⟩:=hyd2 y1 L;clear L y1;go_wp2;exact hK _ _ aq.out ar.out
       ·intro A W f z Q hK hP;obtain⟨x,d,-⟩:=z;change _=_ at x;replace d:RatL (λ_=>True) .i64 W (A 16) (-(c*y)):=d;obtain⟨ws,wA,wn,wc,wB,wm,wd,qw⟩:=d.frm;rw[qw]at d;simp only[fA,x,qw]at hK ⊢;have kc:=qEu (λ_=>True) x9 (-(c*y)) _ _ W (Up.any _) (cX.out.le f) d bv.out bX.out;have⟨ao,dO⟩:=hyd2 kc d;clear d kc;go_wp2_with (fail);go_at_call 55;refine ao.out.mono ?_;rintro e w' ⟨v',rfl,y1,L⟩;obtain⟨vs,vA,vn,vc,vB,vm,vd,rfl⟩:=L.frm;have⟨aq,ar⟩:=hyd2 y1 L;clear L y1;go_wp2;exact hK _ _ aq.out ar.out
       ·intro A W f z Q hK hP;obtain⟨x,d,-⟩:=z;change _=_ at x d;simp only[fA,x,d]at hK ⊢;go_wp2;exact hK _ _ lrR rfl
      intro A W f z Q' aD _;have ab:RatL (λ_=>True) .i64 W (A 17) (x9+ -(c*y)):=z 17 (by decide);rw[<-Rat.sub_eq_add_neg]at ab;obtain⟨s7,A7,n7,c7,B7,m7,d7,qv⟩:=ab.frm;have bP:=z 18 (by decide);change _=_ at bP;simp only[List.drop_succ_cons,List.drop_zero];rw[show List.range 19=[0,1,2,3,4,5,6,7,8,9,10,11,12,13,14,15,16,17,18]from rfl];simp only[fA,qv,bP];clear z;rw[qv]at ab;clear qv bP;have t0:=(Below.cell f (p:=⟨gp,I*3,none⟩) M).trans b2.out;have t1:=(Below.cell f (p:=⟨gp,I*3+1,none⟩) M).trans b3.out;have t2:=(Below.cell f (p:=⟨gp,I*3+2,none⟩) M).trans b4.out;have y0:=(Z.out.p.le f).frz (I*3);have y1:=(Z.out.p.le f).frz (I*3+1);have L:=(Z.out.p.le f).frz (I*3+2);have⟨b6,a7⟩:=hyd2 ab f;clear f ab;go_wp2;refine aD _ _ ?_;clear aD t0 t1 t2 y0 y1 L;have ab:=b6.out;have f:=a7.out;clear b6 a7;have ag:=(Z.out.le f).storeP bI.out b7.out dc.out ab;rw[ci.out]at ag;obtain⟨V9,cF⟩:∃V,((W.setCell ⟨gp,I*3,none⟩ (.bool s7)).setCell ⟨gp,I*3+1,none⟩ (.slice A7 n7 c7)).setCell ⟨gp,I*3+2,none⟩ (.slice B7 m7 d7)=V:=⟨_,rfl⟩;rw[cF]at ag ⊢;have cT:V9.heap[bc]? =some (.cells #[.bool s3,.slice A3 n3 c3,.slice B3 m3 d3] 63):=(ag.2.1 bc bT.out).trans ((f.block bc aj).trans cd.out);have cN:=(bC.out.le f).kp ag.2.2;have ag:=ag.1;clear cF ab;have⟨a7,dk,cU,cO⟩:=hyd4 f ag cT cN
      clear cN cT ag f;go_wp2;go_roundw
      case rel=>exact⟨q+1,by go_num,by omega,dk,cU,cO⟩
      case measure=>simp[intOf];omega
     ·obtain rfl:q=nq:=by omega
      have G:=af.out;rw[<-bo.out]at G;have e9:(m:Int) - ((s+1:Nat):Int)=(i:Int) - 1:=by have:=dV.out;omega
      have ef:¬(q:Int)<(q:Int):=by omega
      have⟨am,dP⟩:=hyd2 G e9;clear e9 G;go_wp2;go_roundw
      case rel=>exact⟨s+1,by rw[dP.out],by omega,am⟩
      case measure=>simp[intOf]
   ·obtain rfl:s=m+1:=by omega
    have x:(m:Int) - ((m+1:Nat):Int)= -1:=by omega
    rw[x];have G:=af.out;have hcut:=qK0 w.heap.size _ _ wr G.p (by rw[qBY,F.out];omega);have b9:=qHN (P:=P) (q:=Q) (m:=m) (by rw[F.out,C.out];exact bm) (by rw[F.out,C.out];exact hm);have aO:qAI P Q=cutz (divS P Q m (m+1)):=by unfold qAI;rw[F.out,C.out,if_neg bm,hm]
    have⟨am,bV,bQ,br,c8⟩:=hyd5 G hcut b9 aO x;clear x aO b9 hcut G;clear af;go_wp2_with (fail);go_at_call 89;refine bV.out.mono ?_;rintro e W2 ⟨v9,rfl,aK,Y⟩;have ay:=am.out.le aK;rw[<-br.out]at Y
    have ac:qEa w base P Q (.returned (.tuple #[.slice (some ⟨gq,0,none⟩) mo mo,v9])) W2:=
     ⟨_,_,rfl,ay.below,ay.o.allSet bQ.out,Y.base hbase⟩
    have⟨dW,dK,dX,ak⟩:=hyd4 aK Y ay ac;clear ac ay Y aK;go_wp2;exact bodyPost_ret (v:= .tuple #[.slice (some ⟨gq,0,none⟩) mo mo,v9]) (by simp[results,Try.results59,go_sem]) rfl ak.out
theorem qFK (base bq:Nat) (vP vQ:Value) (P Q:List Rat) (w:World) (hP:RowE (ratK .i64) 63 base w vP P) (hQ:RowE (ratK .i64) 63 bq w vQ Q) (hbase:base<=w.heap.size)
  (hQ0:0<Q.length) (hQt:Q.getD (Q.length - 1) 0≠0) (hlP:P.length<=1000) (hlQ:Q.length<=1000) (hsQ:∀r∈Q,Rsz r 500000) (hsP:∀s,s<=P.length - Q.length+1->∀r∈divS P Q (P.length - Q.length) s,Rsz r 500000):
  Calls Try.prog 59 #[vP,vQ] w (qEa w base P Q):=
 qEg base bq vP vQ P Q w hP hQ hbase hQ0 hQt hlP hlQ (λr hr=>qA0 (hsQ r hr) (by decide)) (λs hs r hr=>qA0 (hsP s hs r hr) (by decide)) λhl s hs k=>by
  have h1:=qHz hQt (qEJ (hsP s (by omega)) (by decide) (P.length - Q.length - s+Q.length - 1)) (qEJ hsQ (by decide) (Q.length - 1));exact qA0 (qHy (show Rsz (divC _ Q _) _ from h1) (qEJ hsQ (by decide) k)) (by decide)
end Go.Proofs.Ytcoajjdhkhgfdaa
