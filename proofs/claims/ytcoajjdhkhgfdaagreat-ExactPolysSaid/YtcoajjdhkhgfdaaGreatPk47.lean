/- Polynomials, the reference: Divided. (The regions between --@ARM and --@END are printed by gen_polyr.py.) -/
import Derived.Test.YtcoajjdhkhgfdaaGreatPk46
namespace Go.Proofs.YtcoajjdhkhgfdaaGreat
set_option maxRecDepth 100000
set_option maxHeartbeats 4000000
open Go.RowKit Go.Shelf
set_option linter.unusedVariables false
set_option linter.unusedSimpArgs false
theorem RowE.emp {α:Type} {K:EK α} {e:TypeId} {base:Nat} {w:World} {g:Nat} (h:w.heap[g]? =some (.cells #[] e)) (hb:base<=g):RowE K e base w (.slice (some ⟨g,0,none⟩) 0 0) []:=
 ⟨[],rfl,⟨by simp,.inr ⟨g,0,#[],rfl,hb,h,Nat.le_refl _,by decide,by simp,by simp⟩⟩,λg' cur t hg hc u hu=>by
  have e1:g=g':=by simpa[Value.ownBlock]using hg
  subst e1;rw[h]at hc;injection hc with hc;injection hc with hc1 hc2;subst hc1
  simp at hu,λj h=>absurd h (Nat.not_lt_zero _)⟩
theorem RowE.appendL {α:Type} {K:EK α} {P:Program} {e:TypeId} {base base2:Nat} {w:World} {v vy:Value} {xs ys:List α} (h:RowE K e base w v xs) (hy:RowE K e base2 w vy ys) (h0:0<ys.length) {ops:Array Oper} {rest:List Oper} {o:Oper} {a:Act} {Q:Exit->Act->World->Prop} (hgd:o.guard=none) (s x:Operand) (t:TypeId)
  (ho:o.op= .call {callee:= .builtin .append,args:=#[s,x],argTypes:=#[t,t]}) (bytes:Nat) (z:Value) (hb8:bytes<=100) (ht:P.underlying t=some (.slice e)) (hinfo:(P.info? e).map (λi=>(i.zero,i.size,i.bytes))=some (some z,K.sz,bytes))
  (hzs:z.cells.size=K.sz) (hz:∀j,j<K.sz->NI K.ik z.cells[j]!) (hs:a.eval s=v) (hx:a.eval x=vy)
  (hlen:xs.length+ys.length<=1000000) (hbase:base<=w.heap.size)
  (hQ:∀v' w',RowE K e base w' v' (xs++ys)->Below base w w'->Kp K.ik w w'->(∀k,v'.ownBlock=some k->v.ownBlock=some k∨w.heap.size<=k)->w.grownBy w' v.ownBlock->wpList P ops Q rest (a.put o.dst v') w'):wpList P ops Q (o::rest) a w:=by
 obtain⟨i,S,E,F,G⟩:∃i,P.info? e=some i/\i.zero=some z/\i.size=K.sz/\i.bytes=bytes:=by
  cases hq:P.info? e with
  | none=>rw[hq]at hinfo;cases hinfo
  | some i=>
   rw[hq]at hinfo;simp only[Option.map_some,Option.some.injEq,Prod.mk.injEq]at hinfo;exact⟨i,rfl,hinfo.1,hinfo.2.1,hinfo.2.2⟩
 have D:=h;obtain⟨n,I,J,O,R⟩:=h;obtain⟨H,M,rfl,-⟩:=hy.at h0;obtain⟨b,y,N,d3,q⟩:=hy;have A:=qFQ y q
 have d:∀u∈b.flatten,∃(j:Nat) (c:j<ys.length),u∈b.getD j []:=λu f=>by
  rw[List.mem_flatten]at f;obtain⟨l,T,f⟩:=f;obtain⟨j,c,rfl⟩:=List.getElem_of_mem T;exact⟨j,by omega,by rw[List.getD_eq_getElem?_getD,List.getElem?_eq_getElem c];exact f⟩
 refine qDD (NI K.ik) w hgd s x t ho base e i z K.sz bytes ht S E F G hzs K.pos v xs.length n.flatten hs J ⟨H,0,none⟩ ys.length M b.flatten hx (by rw[qCU b A,y]) (N.cells (g:=H) rfl)
  (λu f=>by obtain⟨j,c,C⟩:=d u f;exact K.one (q j c) u C) (by unfold maxLen;omega) (Nat.le_trans (Nat.mul_le_mul hlen hb8) (by decide)) hbase h0 (λu f=>by obtain⟨j,c,C⟩:=d u f;exact K.ni (q j c) u C) hz O ?_
 intro v' w' X q2 Y Z q5
 have m:Kp K.ik w w':=Kp.grown q2 λg L U=>by
  obtain⟨r,q6,q7⟩:=q5 g L;exact⟨(D.nib L).2.2,r,e,q6,q7⟩
 refine hQ v' w' ⟨n++b,by simp[I,y],?_,Z,λj c=>?_⟩ (Below.grown (Below.refl _ _) q2 hbase (λk e=>(J.lt k e).1)) m Y q2
 ·rw[List.flatten_append,List.length_append];exact X
 ·by_cases p:j<xs.length
  ·have:=K.kp (R j p) m;rw[List.getD_eq_getElem?_getD]at this ⊢;rw[List.getElem?_append_left (by omega),List.getElem_append_left p];exact this
  ·have B:j - xs.length<ys.length:=by simp at c;omega
   have:=K.kp (q (j - xs.length) B) m;rw[List.getD_eq_getElem?_getD]at this ⊢;rw[List.getElem?_append_right (by omega),I,List.getElem_append_right (by omega)];exact this
structure DivQ (w:World) (bq gp np cp gq mo:Nat) (vQ:Value) (Q P:List Rat) (os:List (Option Rat)) (W:World):Prop where
 below:Below w.heap.size w W
 p:RowE (ratK .i64) 93 w.heap.size W (.slice (some ⟨gp,0,none⟩) np cp) P
 o:RowE (ratO .i64) 93 w.heap.size W (.slice (some ⟨gq,0,none⟩) mo mo) os
 q:RowE (ratK .i64) 93 bq W vQ Q
section
variable {w:World} {bq gp np cp gq mo:Nat} {vQ:Value} {Q P:List Rat} {os:List (Option Rat)} {W V:World}
theorem DivQ.le (h:DivQ w bq gp np cp gq mo vQ Q P os W) (hb:Le W V):DivQ w bq gp np cp gq mo vQ Q P os V:=
 ⟨h.below.trans (hb.mono h.below.size),h.p.le hb,h.o.le hb,h.q.le hb⟩
theorem DivQ.storeP (h:DivQ w bq gp np cp gq mo vQ Q P os W) (hpq:gp≠gq) (hQ:∀b,vQ.ownBlock=some b->b<w.heap.size) {j:Nat} (hj:j<P.length)
  {s:Bool} {A B:Option Addr} {a c b d:Nat} {r:Rat} (hr:RatL (λ_=>True) .i64 W (.agg #[.bool s,.slice A a c,.slice B b d]) r):
  DivQ w bq gp np cp gq mo vQ Q (P.set j r) os (((W.setCell ⟨gp,j*3,none⟩ (.bool s)).setCell ⟨gp,j*3+1,none⟩ (.slice A a c)).setCell ⟨gp,j*3+2,none⟩ (.slice B b d))/\(∀q,q≠gp->(((W.setCell ⟨gp,j*3,none⟩ (.bool s)).setCell ⟨gp,j*3+1,none⟩ (.slice A a c)).setCell ⟨gp,j*3+2,none⟩ (.slice B b d)).heap[q]? =W.heap[q]?)/\Kp .i64 W (((W.setCell ⟨gp,j*3,none⟩ (.bool s)).setCell ⟨gp,j*3+1,none⟩ (.slice A a c)).setCell ⟨gp,j*3+2,none⟩ (.slice B b d)):=by
 have k:=(h.p.nib (g:=gp) rfl).1;have f:=RowE.store h.p (i:=j) hj (cs:=[.bool s,.slice A a c,.slice B b d]) (y:=r) ⟨_,_,_,_,_,_,_,rfl,hr⟩;have l:∀q,q≠gp->(W.setCells gp (j*3) [.bool s,.slice A a c,.slice B b d]).heap[q]? =W.heap[q]? :=λq hq=>qAa hq _ _ _;exact⟨⟨qA7 k [.bool s,.slice A a c,.slice B b d] (j*3) _ _ h.below,f.1,h.o.keep f.2 (λq hq=>l q (by have e:gq=q:=(by simpa[Value.ownBlock]using hq);subst e;exact Ne.symm hpq)),h.q.keep f.2 λq hq=>l q (by have:=hQ q hq;omega)⟩,l,f.2⟩
theorem DivQ.storeO (h:DivQ w bq gp np cp gq mo vQ Q P os W) (hpq:gp≠gq) (hQ:∀b,vQ.ownBlock=some b->b<w.heap.size) {j:Nat} (hj:j<os.length)
  {s:Bool} {A B:Option Addr} {a c b d:Nat} {r:Rat} (hr:RatL (λ_=>True) .i64 W (.agg #[.bool s,.slice A a c,.slice B b d]) r):
  DivQ w bq gp np cp gq mo vQ Q P (os.set j (some r)) (((W.setCell ⟨gq,j*3,none⟩ (.bool s)).setCell ⟨gq,j*3+1,none⟩ (.slice A a c)).setCell ⟨gq,j*3+2,none⟩ (.slice B b d))/\(∀q,q≠gq->(((W.setCell ⟨gq,j*3,none⟩ (.bool s)).setCell ⟨gq,j*3+1,none⟩ (.slice A a c)).setCell ⟨gq,j*3+2,none⟩ (.slice B b d)).heap[q]? =W.heap[q]?)/\Kp .i64 W (((W.setCell ⟨gq,j*3,none⟩ (.bool s)).setCell ⟨gq,j*3+1,none⟩ (.slice A a c)).setCell ⟨gq,j*3+2,none⟩ (.slice B b d)):=by
 have k:=(h.o.nib (g:=gq) rfl).1;have f:=RowE.store h.o (i:=j) hj (cs:=[.bool s,.slice A a c,.slice B b d]) (y:=some r) ⟨_,_,_,_,_,_,_,rfl,hr⟩;have l:∀q,q≠gq->(W.setCells gq (j*3) [.bool s,.slice A a c,.slice B b d]).heap[q]? =W.heap[q]? :=λq hq=>qAa hq _ _ _;exact⟨⟨qA7 k [.bool s,.slice A a c,.slice B b d] (j*3) _ _ h.below,h.p.keep f.2 (λq hq=>l q (by have e:gp=q:=(by simpa[Value.ownBlock]using hq);subst e;exact hpq)),f.1,h.q.keep f.2 λq hq=>l q (by have:=hQ q hq;omega)⟩,l,f.2⟩
end
def MPred.boxZ (n:Nat):MPred:=⟨λv W=>∃B,v= .pointer (some ⟨B,0,none⟩)/\n<=B/\W.heap[B]? =some (.cells #[.bool false,.slice none 0 0,.slice none 0 0] 93),
 λ_ _ _ hb ⟨B,e,h1,k⟩=>⟨B,e,h1,(hb.block B (gsl k)).trans k⟩⟩
def qFu (w:World) (base:Nat) (P Q:List Rat) (e:Ending) (w':World):Prop:=
 ∃va vr,e= .returned (.tuple #[va,vr])/\Le w w'/\RowE (ratK .i64) 93 w.heap.size w' va (qC2 P Q)/\RowE (ratK .i64) 93 base w' vr (qAZ P Q)
theorem qFJ (base bq:Nat) (vP vQ:Value) (P Q:List Rat) (w:World) (hP:RowE (ratK .i64) 93 base w vP P) (hQ:RowE (ratK .i64) 93 bq w vQ Q) (hbase:base<=w.heap.size)
  (hQ0:0<Q.length) (hQt:Q.getD (Q.length - 1) 0≠0) (hlP:P.length<=1000) (hlQ:Q.length<=1000) (hsQ:∀r∈Q,Rsz r 500000) (hsP:∀s,s<=P.length - Q.length+1->∀r∈divS P Q (P.length - Q.length) s,Rsz r 500000):
  Calls Tryz.prog 41 #[vP,vQ] w (qFu w base P Q):=by
 obtain⟨AP,cP,rfl⟩:=hP.slice;obtain⟨AQ,cQ,rfl⟩:=hQ.slice;obtain⟨np,T⟩:∃n,P.length=n:=⟨_,rfl⟩;obtain⟨nq,ad⟩:∃n,Q.length=n:=⟨_,rfl⟩;rw[T]at hP hlP ⊢;rw[ad]at hQ hQ0 hQt hlQ ⊢;have N:=qEF
 by_cases bj:np<nq
 ·have d:qC2 P Q=[]:=by unfold qC2;rw[T,ad,if_pos bj]
  have e2:qAZ P Q=P:=by unfold qAZ;rw[T,ad,if_pos bj]
  have ab:qFu w base P Q (.returned (.tuple #[.slice none 0 0,.slice AP np cP])) w:=⟨_,_,rfl,Below.refl _ _,by rw[d];exact RowE.nil _ _ _ _,by rw[e2];exact hP⟩;have j1:(np:Int)<(nq:Int):=by omega
  have⟨dM,c8,al,b6,aO,aN,O,F⟩:=hyd8 hP hQ ab hQt hsQ hsP N T;have⟨C,dJ,fE⟩:=hyd3 ad d e2;clear e2 d ad T N hsP hsQ hQt ab hQ hP;go_enter Tryz.func41,Tryz.ntmps41;go_wp2;exact bodyPost_ret (v:= .tuple #[.slice none 0 0,.slice AP np cP]) (by simp[results,Tryz.results41,go_sem]) rfl al.out
 ·obtain⟨m,hm⟩:∃m,np - nq=m:=⟨_,rfl⟩;rw[T,ad,hm]at hsP;have c9:∀b,(Value.slice AQ nq cQ).ownBlock =some b->b<w.heap.size:=λb hb=>(hQ.nib hb).2.1;obtain⟨W1,dN,bd,k1⟩:=enew w (.cells #[] 93);have bD:RowE (ratK .i64) 93 w.heap.size W1 (.slice (some ⟨w.heap.size,0,none⟩) 0 0) []:=RowE.emp k1 (Nat.le_refl _);have c1:=hP.le bd;have cX:0<P.length:=by omega
  have dY:w.heap.size<=W1.heap.size:=bd.size;have cU:∀s,s<=m->(divS P Q m s).length =np:=λs _=>(qBb P Q m s).trans T;have j1:¬(np:Int)<(nq:Int):=by omega
  have j2:(np:Int) - (nq:Int)=(m:Int):=by omega
  obtain⟨mo,cW⟩:∃k,m+1=k:=⟨_,rfl⟩;have j3:(m:Int)+1=(mo:Int):=by omega
  have fK:mo<=2000:=by omega
  have fJ:0<mo:=by omega
  have⟨dM,c8,b6,aO,aN,O,F,C⟩:=hyd8 hP hQ hQt hsQ hsP N T ad;have⟨cV,b5,bF,cE,fX,aH,c6,bG⟩:=hyd8 cU c9 cW bd k1 bD c1 cX;clear cX c1 bD k1 bd cW c9 cU ad T N hsP hsQ hQt hQ hP;go_enter Tryz.func41,Tryz.ntmps41;go_wp2_with (first | (at_builtin;go_must (refine RowE.appendL aH.out c6.out bG.out rfl _ _ 63 rfl 56 (.agg #[.bool false,.slice none 0 0,.slice none 0 0]) (by decide) Tryz.underlying63 O.out rfl qDP rfl rfl (by have:=F.out;simp;omega) dY ?_)));intro v2 W2 q1 q2 q3 q4 q5;clear dN aH;obtain⟨A2,c2,rfl⟩:=q1.slice;rw[F.out]at q1 ⊢
  obtain⟨gp,dL⟩:∃g,A2=some ⟨g,0,none⟩:=by
   obtain⟨g,c,d,-⟩:=q1.at (j:=0) bG.out;injection d with d;exact⟨g,d⟩
  subst dL;have bR:Below w.heap.size w W2:=cE.out.trans q2;have dZ:w.heap.size<=W2.heap.size:=bR.size;have bh:=q1.nib (g:=gp) rfl;have eU:=bh.2.1;have eW:=bh.1;have⟨dw,aD,eg,eh,ei,eT⟩:=hyd6 q1 bR q3 q4 q5 bh;clear bh q5 q4 q3 bR q1;clear q2 eg eh ei;go_wp2_with (at_make;go_must (refine qDb (k:= .i64) _ rfl _ _ 63 rfl w.heap.size 93 56 Tryz.underlying63 O.out (by decide) mo (by go_num) (by go_num) (by omega) dZ ?_);intro W0 o1 o2 o3;have dv:=Lib.hid o1;have cj:=Lib.hid o2;clear o1 o2);obtain⟨gq,bi⟩:∃g,W2.heap.size=g:=⟨_,rfl⟩;have M:Below w.heap.size w W0:=aD.out.trans (cj.out.mono aD.out.size);have bI:DivQ w bq gp np c2 gq mo (.slice AQ nq cQ) Q (divS P Q m 0) (qAo P Q m 0) W0:=⟨M,dw.out.le cj.out,by rw[qGT,<-bi,bF.out];exact dv.out,c8.out.le M⟩;have cZ:gp≠gq:=by omega
  rw[bi];have⟨cg,eX,b8,bH⟩:=hyd4 bI bi M cZ;clear cZ M bi bI;clear dv cj o3 aD dw;rename World=>wz
  go_loopw [9] (λi wr=>∃s:Nat,i= .int .i64 ((m:Int) - (s:Int))/\s<=m+1/\Hid (DivQ w bq gp np c2 gq mo (.slice AQ nq cQ) Q (divS P Q m s) (qAo P Q m s) wr)) (λi _=>(intOf i+1).toNat)
  case atStart=>exact⟨0,by simp,Nat.zero_le _,cg⟩
  case round=>
   obtain⟨s,rfl,hs,af⟩:=hrel
   by_cases bE:s<=m
   ·obtain⟨i,hi⟩:∃i,m - s=i:=⟨_,rfl⟩;have x:(m:Int) - (s:Int)=(i:Int):=by omega
    rw[x];have ac:(divS P Q m s).length =np:=cV.out s bE;obtain⟨Ps,aB⟩:∃l,divS P Q m s=l:=⟨_,rfl⟩
    have S:divS P Q m (s+1)=subK Ps Q i (divC Ps Q i) nq:=by
     show subK (divS P Q m s) Q (m - s) (divC (divS P Q m s) Q (m - s)) Q.length=_
     rw[aB,hi,C.out]
    have U:=qHD (P:=P) (q:=Q) bE;have a5:=aN.out s hs;have a4:=aN.out (s+1) (by omega);simp only[aB,hi]at U a5 ac;rw[S]at a4;have E:=af.out;rw[aB]at E;obtain⟨c,bf⟩:∃c,divC Ps Q i=c:=⟨_,rfl⟩;rw[bf]at S U a4;obtain⟨t,ht⟩:∃t,i+nq - 1=t:=⟨_,rfl⟩;have aT:t<Ps.length:=by rw[ac];omega
    obtain⟨g1,f9,d,-,bX,-,-,cs,D,aG⟩:=E.p.at aT;rw[ac]at d;injection d with d e2 e3;injection d with d;injection d with d;subst d e3;clear e2;have bu:Ps.getD t 0=Ps[t]:=by rw[List.getD_eq_getElem?_getD,List.getElem?_eq_getElem aT];rfl
    have bo:Rsz Ps[t] 500000:=a5 _ (List.getElem_mem aT);generalize Ps[t]=a at D bu bo;obtain⟨s1,A1,n1,d1,B1,m1,f1,rfl,cC⟩:=D;have cb:nq - 1<Q.length:=by rw[C.out];omega
    obtain⟨Z,fB,d,-,bY,-,-,cs,D,a8⟩:=E.q.at cb;rw[C.out]at d;injection d with d e2 e3;subst d e3;clear e2;have aL:Q.getD (nq - 1) 0=Q[nq - 1]:=by rw[List.getD_eq_getElem?_getD,List.getElem?_eq_getElem cb];rfl
    have bp:Rsz Q[nq - 1] 500000:=aO.out _ (List.getElem_mem cb);have M:Q[nq - 1]≠0:=by rw[<-aL];exact b6.out
    generalize Q[nq - 1]=b at D aL bp M;obtain⟨s2,A2,n2,d2,B2,m2,f2,rfl,cF⟩:=D;have aF:c=a / b:=by rw[<-bf,<-bu,<-aL];unfold divC;rw[C.out,ht]
    have bJ:Rsz c 1000000:=by rw[aF];exact qKO M bo bp
    obtain⟨l9,cd⟩:∃l,nq - 1=l:=⟨_,rfl⟩;rw[cd]at a8;have x0:wr.cell? ⟨gp,t*3,none⟩=some (.bool s1):=aG 0 _ rfl;have x1:wr.cell? ⟨gp,t*3+1,none⟩=some (.slice A1 n1 d1):=aG 1 _ rfl;have x2:wr.cell? ⟨gp,t*3+2,none⟩=some (.slice B1 m1 f1):=aG 2 _ rfl;have z0:wr.cell? ⟨Z,l9*3,none⟩=some (.bool s2):=a8 0 _ rfl;have z1:wr.cell? ⟨Z,l9*3+1,none⟩=some (.slice A2 n2 d2):=a8 1 _ rfl;have z2:wr.cell? ⟨Z,l9*3+2,none⟩=some (.slice B2 m2 f2):=a8 2 _ rfl;have ca:i<(qAo P Q m s).length :=by rw[qDc];omega
    obtain⟨u0,u1,u2,di,dk,dm⟩:∃u0 u1 u2,wr.cell? ⟨gq,i*3,none⟩=some u0/\wr.cell? ⟨gq,i*3+1,none⟩=some u1/\wr.cell? ⟨gq,i*3+2,none⟩=some u2:=by
     obtain⟨g',c',d,-,-,-,-,cs,D,hc⟩:=E.o.at ca;injection d with d e2 e3;injection d with d;injection d with d;subst d;have hl:=(ratO .i64).len D
     match cs,hl with
     | [a0,a1,a2],_=>exact⟨a0,a1,a2,hc 0 _ rfl,hc 1 _ rfl,hc 2 _ rfl⟩
    have aI:=(E.o.nib (g:=gq) rfl).2.1;have eV:=(E.p.nib (g:=gp) rfl).2.1;have fO:w.heap.size<=wr.heap.size:=E.below.size;obtain⟨t1,dh⟩:∃k,i+nq=k:=⟨_,rfl⟩;have j4:(i:Int)+(nq:Int)=(t1:Int):=by omega
    have j5:(t1:Int) - 1=(t:Int):=by omega
    have fW:t1<=2000:=by omega
    have j6:(nq:Int) - 1=(l9:Int):=by omega
    have j7:(t:Int)<(np:Int):=by omega
    have j8:(l9:Int)<(nq:Int):=by omega
    have j9:(i:Int)<(mo:Int):=by have:=bF.out;omega
    have fQ:(0:Int)<=(i:Int):=by omega
    have fR:(0:Int)<=(t:Int):=by omega
    have fS:(0:Int)<=(l9:Int):=by omega
    have fH:i+nq<=np:=by omega
    clear af;have⟨am,eK,bk,bl,ch,dV,H,eO⟩:=hyd8 ac aB S U a5 a4 E bf;have⟨fN,fc,cD,cG,fb,eZ,dd,de⟩:=hyd8 ht aT cC cF bu aL bo bp;have⟨b8,bT,aP,eY,b0,b1,b2,cm⟩:=hyd8 M aF bJ cd x0 x1 x2 z0;have⟨cn,co,cL,dj,dl,dn,eQ,eR⟩:=hyd8 z1 z2 ca di dk dm aG a8;have⟨dQ,cz,ec,ed,ee,fa⟩:=hyd6 hi x j4 j5 j6 dh;clear dh j6 j5 j4 x hi a8 aG dm dk di ca z2 z1 z0 x2 x1 x0 cd bJ aF M bp bo aL bu cF cC aT ht bf E a4 a5 U S aB ac;go_wp2_with (fail);refine qAW (R:=leRel) 14 [some 36,some 37,some 38,some 39,some 40,some 41,some 42,some 43,some 44,some 45,some 46,some 47,some 48,some 10,none] [[],[],[],[1,2],[3],[0,4],[5],[],[],[8],[7,9],[10],[6,11],[],[12,13]]
     [.eq (.slice (some ⟨gp,0,none⟩) np c2),.eq (.int .i64 (i:Int)),.eq (.int .i64 (nq:Int)),.eq (.int .i64 (t1:Int)),.eq (.int .i64 (t:Int)),.eq (.pointer (some ⟨gp,t*3,none⟩)),.eq (.agg #[.bool s1,.slice A1 n1 d1,.slice B1 m1 f1]),.eq (.slice (some ⟨Z,0,none⟩) nq cQ),.eq (.int .i64 (nq:Int)),.eq (.int .i64 (l9:Int)),.eq (.pointer (some ⟨Z,l9*3,none⟩)),.eq (.agg #[.bool s2,.slice A2 n2 d2,.slice B2 m2 f2]),MPred.ratW (a / b),MPred.boxZ wr.heap.size] (λ_ _=>False) (by kernel_rfl) (by kernel_rfl) (by kernel_rfl) (by kernel_rfl) (by kernel_rfl) ?_ (λ_ _ _ _ h=>h.elim) ?_
    ·simp only[List.take_succ_cons,List.take_zero];refine sMc rfl ?_ (sMc rfl ?_ (sMc rfl ?_ (sMc rfl ?_ (sMc rfl ?_ (sMc rfl ?_ (sMc rfl ?_ (sMc rfl ?_ (sMc rfl ?_ (sMc rfl ?_ (sMc rfl ?_ (sMc rfl ?_ (sMc rfl ?_ (sMc rfl ?_ (qA0))))))))))))))
     ·intro A W f z Q hK hP;simp only[fA]at hK ⊢;go_wp2;exact hK _ _ lrR rfl
     ·intro A W f z Q hK hP;simp only[fA]at hK ⊢;go_wp2;exact hK _ _ lrR rfl
     ·intro A W f z Q hK hP;simp only[fA]at hK ⊢;go_wp2;exact hK _ _ lrR rfl
     ·intro A W f z Q hK hP;obtain⟨x,d,-⟩:=z;change _=_ at x d;have jj:=ec.out;simp only[fA,x,d]at hK ⊢;go_wp2;exact hK _ _ lrR (by show Value.int _ _=Value.int _ _;congr 1)
     ·intro A W f z Q hK hP;obtain⟨x,-⟩:=z;change _=_ at x;have jj:=ed.out;simp only[fA,x]at hK ⊢;go_wp2;exact hK _ _ lrR (by show Value.int _ _=Value.int _ _;congr 1)
     ·intro A W f z Q hK hP;obtain⟨x,d,-⟩:=z;change _=_ at x d;simp only[fA,x,d]at hK ⊢;go_wp2;exact hK _ _ lrR rfl
     ·intro A W f z Q hK hP;obtain⟨x,-⟩:=z;change _=_ at x;have t0:=(Below.cell f (p:=⟨gp,t*3,none⟩) bX).trans b0.out;have t1:=(Below.cell f (p:=⟨gp,t*3+1,none⟩) bX).trans b1.out;have t2:=(Below.cell f (p:=⟨gp,t*3+2,none⟩) bX).trans b2.out;simp only[fA,x]at hK ⊢;go_wp2;exact hK _ _ lrR rfl
     ·intro A W f z Q hK hP;simp only[fA]at hK ⊢;go_wp2;exact hK _ _ lrR rfl
     ·intro A W f z Q hK hP;simp only[fA]at hK ⊢;go_wp2;exact hK _ _ lrR rfl
     ·intro A W f z Q hK hP;obtain⟨x,-⟩:=z;change _=_ at x;have jj:=ee.out;simp only[fA,x]at hK ⊢;go_wp2;exact hK _ _ lrR (by show Value.int _ _=Value.int _ _;congr 1)
     ·intro A W f z Q hK hP;obtain⟨x,d,-⟩:=z;change _=_ at x d;simp only[fA,x,d]at hK ⊢;go_wp2;exact hK _ _ lrR rfl
     ·intro A W f z Q hK hP;obtain⟨x,-⟩:=z;change _=_ at x;have t0:=(Below.cell f (p:=⟨Z,l9*3,none⟩) bY).trans cm.out;have t1:=(Below.cell f (p:=⟨Z,l9*3+1,none⟩) bY).trans cn.out;have t2:=(Below.cell f (p:=⟨Z,l9*3+2,none⟩) bY).trans co.out;simp only[fA,x]at hK ⊢;go_wp2;exact hK _ _ lrR rfl
     ·intro A W f z Q hK hP;obtain⟨x,d,-⟩:=z;change _=_ at x d;simp only[fA,x,d]at hK ⊢;have kc:=qHA (λ_=>True) a b _ _ W (Up.any _) (cD.out.le f) (cG.out.le f) (qAN dd.out (by decide)) (qAN de.out (by decide)) b8.out;have ap:=hyd1 kc;clear kc;go_wp2_with (fail);go_at_call 76;refine ap.out.mono ?_;rintro e w' ⟨v',rfl,y1,J⟩;obtain⟨vs,vA,vn,vc,vB,vm,vd,rfl⟩:=J.frm;have⟨ar,au⟩:=hyd2 y1 J;clear J y1;go_wp2;exact hK _ _ ar.out au.out
     ·intro A W f z Q hK hP;simp only[fA]at hK ⊢;go_wp2;exact hK _ _ (alc1 _ _) ⟨_,rfl,f.size,heap_alloc_new _ _⟩
    intro A W f z Q' aC _;have aj:RatL (λ_=>True) .i64 W (A 12) (a / b):=z 12 (by decide);obtain⟨s3,A3,n3,c3,B3,m3,d3,qv⟩:=aj.frm;obtain⟨bc,c0,dO,ao⟩:∃B,A 13= .pointer (some ⟨B,0,none⟩)/\wr.heap.size<=B/\W.heap[B]? =some (.cells #[.bool false,.slice none 0 0,.slice none 0 0] 93):=z 13 (by decide);simp only[List.drop_succ_cons,List.drop_zero];rw[show List.range 14=[0,1,2,3,4,5,6,7,8,9,10,11,12,13]from rfl];simp only[fA,qv,c0];clear z;rw[qv]at aj;clear qv c0;obtain⟨t0,t1,t2,y0,y1,J⟩:=qAD ao;have⟨b3,a6,bL⟩:=hyd3 aj f ao;clear ao f aj;go_wp2;refine aC _ _ ?_;clear aC t0 t1 t2 y0 y1 J;have aj:=b3.out;have f:=a6.out;have ao:=bL.out;clear b3 a6 bL;obtain⟨u1,u2,d0,d1,d2⟩:=qH7 f dO ao (qAK _) (qAB _ _ _) (qAB _ _ _) aj;have kV:=qA1 (u0:= .bool s3) (u1:= .slice A3 n3 c3) (u2:= .slice B3 m3 d3) ao;rw[<-bT.out]at u2;obtain⟨V,hV⟩:∃V,((W.setCell ⟨bc,0,none⟩ (.bool s3)).setCell ⟨bc,1,none⟩ (.slice A3 n3 c3)).setCell ⟨bc,2,none⟩ (.slice B3 m3 d3)=V:=⟨_,rfl⟩;rw[hV]at u1 u2 d0 d1 d2 kV ⊢;clear hV ao aj f;have a9:=(H.out.le u1).storeO bH.out b5.out cL.out u2;rw[bl.out]at a9;have aE:bc≠gq:=by omega
    have b9:bc≠gp:=by omega
    have ak:=gsl kV;have t0:=(Below.cell u1 (p:=⟨gq,i*3,none⟩) aI).trans dj.out;have t1:=(Below.cell u1 (p:=⟨gq,i*3+1,none⟩) aI).trans dl.out;have t2:=(Below.cell u1 (p:=⟨gq,i*3+2,none⟩) aI).trans dn.out;have y0:=(H.out.o.le u1).frz (i*3);have y1:=(H.out.o.le u1).frz (i*3+1);have J:=(H.out.o.le u1).frz (i*3+2);obtain⟨V2,cA⟩:∃V2,((V.setCell ⟨gq,i*3,none⟩ (.bool s3)).setCell ⟨gq,i*3+1,none⟩ (.slice A3 n3 c3)).setCell ⟨gq,i*3+2,none⟩ (.slice B3 m3 d3)=V2:=⟨_,rfl⟩;rw[cA]at a9;have db:DivQ w bq gp np c2 gq mo (.slice (some ⟨Z,0,none⟩) nq cQ) Q (subK Ps Q i c 0) (qAo P Q m (s+1)) V2:=by rw[qHC];exact a9.1
    have dt:V2.heap[bc]? =some (.cells #[.bool s3,.slice A3 n3 c3,.slice B3 m3 d3] 93):=(a9.2.1 bc aE).trans kV;have cH:RatL (λ_=>True) .i64 V2 (.agg #[.bool s3,.slice A3 n3 c3,.slice B3 m3 d3]) c:=u2.kp a9.2.2;clear a9;have⟨gd,ge,fY,dc,du,cI,dP,bS⟩:=hyd8 u1 u2 kV db dt cH aE b9;have eN:=hyd1 ak;clear ak b9 aE cH dt db kV u2 u1;clear H;go_wp2_with (fail);clear t0 t1 t2 y0 y1 J d0 d1 d2;clear cA;rename World=>wy
    go_loopw [11] (λi' wr=>∃q:Nat,i'= .int .i64 (q:Int)/\q<=nq/\Hid (DivQ w bq gp np c2 gq mo (.slice (some ⟨Z,0,none⟩) nq cQ) Q (subK Ps Q i c q) (qAo P Q m (s+1)) wr)/\Hid (wr.heap[bc]? =some (.cells #[.bool s3,.slice A3 n3 c3,.slice B3 m3 d3] 93))/\Hid (RatL (λ_=>True) .i64 wr (.agg #[.bool s3,.slice A3 n3 c3,.slice B3 m3 d3]) c)) (λi' _=>nq - (intOf i').toNat)
    case atStart=>exact⟨0,rfl,Nat.zero_le _,dc,du,cI⟩
    case round=>
     obtain⟨q,rfl,fL,af,cR,bg⟩:=hrel
     by_cases da:q<nq
     ·have ce:q<Q.length:=by rw[C.out];exact da
      have az:=af.out;have ax:=cR.out;have bB:=bg.out;obtain⟨gy,cy,d,-,bZ,-,-,cs,D,hc⟩:=az.q.at ce;rw[C.out]at d;injection d with d e2 e3;injection d with d;injection d with d;subst d e3;clear e2;have bv:Q.getD q 0=Q[q]:=by rw[List.getD_eq_getElem?_getD,List.getElem?_eq_getElem ce];rfl
      have ah:Rsz Q[q] 500000:=aO.out _ (List.getElem_mem ce);generalize Q[q]=y at D bv ah;obtain⟨s5,A5,n5,c5,B5,m5,d5,rfl,dp⟩:=D;have z0:wr.cell? ⟨Z,q*3,none⟩=some (.bool s5):=hc 0 _ rfl;have z1:wr.cell? ⟨Z,q*3+1,none⟩=some (.slice A5 n5 c5):=hc 1 _ rfl;have z2:wr.cell? ⟨Z,q*3+2,none⟩=some (.slice B5 m5 d5):=hc 2 _ rfl;have aK:i+q<(subK Ps Q i c q).length :=by rw[qBx,am.out];omega
      obtain⟨gl,cl,d,-,L,-,-,cs,D,a7⟩:=az.p.at aK;rw[qBx,am.out]at d;injection d with d e2 e3;injection d with d;injection d with d;subst d;clear e2 e3;have bQ:=qIp aK;have ae:=qHy (P:=Ps) (q:=Q) (i:=i) (c:=c) (k:=q) (by rw[am.out];omega);have a3:Rsz (Ps.getD (i+q) 0) 500000:=qBS ch.out (by decide) (i+q);rw[bQ]at D;obtain⟨x9,ci⟩:∃l,Ps.getD (i+q) 0=l:=⟨_,rfl⟩;rw[ci]at D a3 ae;rw[bv]at ae;obtain⟨s4,A4,n4,c4,B4,m4,d4,rfl,cS⟩:=D;obtain⟨I,cM⟩:∃m,i+q=m:=⟨_,rfl⟩;rw[cM]at ae a7 aK;have x0:wr.cell? ⟨gp,I*3,none⟩=some (.bool s4):=a7 0 _ rfl;have x1:wr.cell? ⟨gp,I*3+1,none⟩=some (.slice A4 n4 c4):=a7 1 _ rfl;have x2:wr.cell? ⟨gp,I*3+2,none⟩=some (.slice B4 m4 d4):=a7 2 _ rfl;obtain⟨r0,r1,r2,-,-,-⟩:=qAD ax;have ak:=gsl ax;have bV:Rsz (c*y) 2000000:=qAN (qCg aP.out ah) (by decide);have bC:=qL5 bV;have aR:Rsz x9 2000000:=qAN a3 (by decide);have aQ:Rsz c 5000000:=qAN aP.out (by decide);have aS:Rsz y 5000000:=qAN ah (by decide);have eb:(q:Int)<(nq:Int):=by omega
      have fT:(0:Int)<=(q:Int):=by omega
      have dr:(i:Int)+(q:Int)=(I:Int):=by omega
      have fU:(I:Int)<(np:Int):=by omega
      have fV:(0:Int)<=(I:Int):=by omega
      have dD:I<1000:=by omega
      have bg:=bB;clear cM af cR bB;have⟨fe,dW,dq,eM,cf,dU,fd,cT⟩:=hyd8 bv ah dp bQ ae a3 ci cS;have⟨eS,bW,bs,br,bt,b0,b1,b2⟩:=hyd8 bV bC aR aQ aS x0 x1 x2;have⟨ej,ek,el,cm,cn,co,fG,eP⟩:=hyd8 r0 r1 r2 z0 z1 z2 hc a7;have⟨cY,bK,Y,cc,bA⟩:=hyd5 aK dr az ax bg;clear bg ax az dr aK a7 hc z2 z1 z0 r2 r1 r0 x2 x1 x0 aS aQ aR bC bV cS ci a3 ae bQ dp ah bv;go_wp2_with (fail);refine qAW (R:=leRel) 19 [some 58,some 59,some 60,some 61,some 62,some 63,some 64,some 65,some 66,some 67,some 68,some 69,some 70,some 71,some 72,some 73,some 74,some 75,some 76,none] [[],[],[],[1,2],[],[],[],[5,6],[4,7],[8],[],[],[],[11,12],[13],[10,14],[15],[9,16],[0,3],[17,18]]
       [.eq (.slice (some ⟨gp,0,none⟩) np c2),.eq (.int .i64 (i:Int)),.eq (.int .i64 (q:Int)),.eq (.int .i64 (I:Int)),.eq (.slice (some ⟨gp,0,none⟩) np c2),.eq (.int .i64 (i:Int)),.eq (.int .i64 (q:Int)),.eq (.int .i64 (I:Int)),.eq (.pointer (some ⟨gp,I*3,none⟩)),.eq (.agg #[.bool s4,.slice A4 n4 c4,.slice B4 m4 d4]),.eq (.agg #[.bool s3,.slice A3 n3 c3,.slice B3 m3 d3]),.eq (.slice (some ⟨Z,0,none⟩) nq cQ),.eq (.int .i64 (q:Int)),.eq (.pointer (some ⟨Z,q*3,none⟩)),.eq (.agg #[.bool s5,.slice A5 n5 c5,.slice B5 m5 d5]),MPred.ratW (c*y),MPred.ratW (-(c*y)),MPred.ratW (x9+ -(c*y)),.eq (.pointer (some ⟨gp,I*3,none⟩))] (λ_ _=>False) (by kernel_rfl) (by kernel_rfl) (by kernel_rfl) (by kernel_rfl) (by kernel_rfl) ?_ (λ_ _ _ _ h=>h.elim) ?_
      ·simp only[List.take_succ_cons,List.take_zero];refine sMc rfl ?_ (sMc rfl ?_ (sMc rfl ?_ (sMc rfl ?_ (sMc rfl ?_ (sMc rfl ?_ (sMc rfl ?_ (sMc rfl ?_ (sMc rfl ?_ (sMc rfl ?_ (sMc rfl ?_ (sMc rfl ?_ (sMc rfl ?_ (sMc rfl ?_ (sMc rfl ?_ (sMc rfl ?_ (sMc rfl ?_ (sMc rfl ?_ (sMc rfl ?_ (qA0)))))))))))))))))))
       ·intro A W f z Q hK hP;simp only[fA]at hK ⊢;go_wp2;exact hK _ _ lrR rfl
       ·intro A W f z Q hK hP;simp only[fA]at hK ⊢;go_wp2;exact hK _ _ lrR rfl
       ·intro A W f z Q hK hP;simp only[fA]at hK ⊢;go_wp2;exact hK _ _ lrR rfl
       ·intro A W f z Q hK hP;obtain⟨x,d,-⟩:=z;change _=_ at x d;have jj:=bK.out;simp only[fA,x,d]at hK ⊢;go_wp2;exact hK _ _ lrR (by show Value.int _ _=Value.int _ _;congr 1)
       ·intro A W f z Q hK hP;simp only[fA]at hK ⊢;go_wp2;exact hK _ _ lrR rfl
       ·intro A W f z Q hK hP;simp only[fA]at hK ⊢;go_wp2;exact hK _ _ lrR rfl
       ·intro A W f z Q hK hP;simp only[fA]at hK ⊢;go_wp2;exact hK _ _ lrR rfl
       ·intro A W f z Q hK hP;obtain⟨x,d,-⟩:=z;change _=_ at x d;have jj:=bK.out;simp only[fA,x,d]at hK ⊢;go_wp2;exact hK _ _ lrR (by show Value.int _ _=Value.int _ _;congr 1)
       ·intro A W f z Q hK hP;obtain⟨x,d,-⟩:=z;change _=_ at x d;simp only[fA,x,d]at hK ⊢;go_wp2;exact hK _ _ lrR rfl
       ·intro A W f z Q hK hP;obtain⟨x,-⟩:=z;change _=_ at x;have t0:=(Below.cell f (p:=⟨gp,I*3,none⟩) L).trans b0.out;have t1:=(Below.cell f (p:=⟨gp,I*3+1,none⟩) L).trans b1.out;have t2:=(Below.cell f (p:=⟨gp,I*3+2,none⟩) L).trans b2.out;simp only[fA,x]at hK ⊢;go_wp2;exact hK _ _ lrR rfl
       ·intro A W f z Q hK hP;have t0:=(Below.cell f (p:=⟨bc,0,none⟩) ak).trans ej.out;have t1:=(Below.cell f (p:=⟨bc,1,none⟩) ak).trans ek.out;have t2:=(Below.cell f (p:=⟨bc,2,none⟩) ak).trans el.out;simp only[fA]at hK ⊢;go_wp2;exact hK _ _ lrR rfl
       ·intro A W f z Q hK hP;simp only[fA]at hK ⊢;go_wp2;exact hK _ _ lrR rfl
       ·intro A W f z Q hK hP;simp only[fA]at hK ⊢;go_wp2;exact hK _ _ lrR rfl
       ·intro A W f z Q hK hP;obtain⟨x,d,-⟩:=z;change _=_ at x d;simp only[fA,x,d]at hK ⊢;go_wp2;exact hK _ _ lrR rfl
       ·intro A W f z Q hK hP;obtain⟨x,-⟩:=z;change _=_ at x;have t0:=(Below.cell f (p:=⟨Z,q*3,none⟩) bZ).trans cm.out;have t1:=(Below.cell f (p:=⟨Z,q*3+1,none⟩) bZ).trans cn.out;have t2:=(Below.cell f (p:=⟨Z,q*3+2,none⟩) bZ).trans co.out;simp only[fA,x]at hK ⊢;go_wp2;exact hK _ _ lrR rfl
       ·intro A W f z Q hK hP;obtain⟨x,d,-⟩:=z;change _=_ at x d;simp only[fA,x,d]at hK ⊢;have kc:=qEV (λ_=>True) c y _ _ W (Up.any _) (bA.out.le f) (dq.out.le f) br.out bt.out;have ap:=hyd1 kc;clear kc;go_wp2_with (fail);go_at_call 72;refine ap.out.mono ?_;rintro e w' ⟨v',rfl,y1,J⟩;obtain⟨vs,vA,vn,vc,vB,vm,vd,rfl⟩:=J.frm;have⟨ar,au⟩:=hyd2 y1 J;clear J y1;go_wp2;exact hK _ _ ar.out au.out
       ·intro A W f z Q hK hP;obtain⟨x,-⟩:=z;replace x:RatL (λ_=>True) .i64 W (A 15) (c*y):=x;obtain⟨ws,wA,wn,wc,wB,wm,wd,qw⟩:=x.frm;rw[qw]at x;simp only[fA,qw]at hK ⊢;have kc:=qHV (λ_=>True) (c*y) _ W x;have⟨ap,cz⟩:=hyd2 kc x;clear x kc;go_wp2_with (fail);go_at_call 77;refine ap.out.mono ?_;rintro e w' ⟨v',rfl,y1,J⟩;obtain⟨vs,vA,vn,vc,vB,vm,vd,rfl⟩:=J.frm;have⟨ar,au⟩:=hyd2 y1 J;clear J y1;go_wp2;exact hK _ _ ar.out au.out
       ·intro A W f z Q hK hP;obtain⟨x,d,-⟩:=z;change _=_ at x;replace d:RatL (λ_=>True) .i64 W (A 16) (-(c*y)):=d;obtain⟨ws,wA,wn,wc,wB,wm,wd,qw⟩:=d.frm;rw[qw]at d;simp only[fA,x,qw]at hK ⊢;have kc:=qDC (λ_=>True) x9 (-(c*y)) _ _ W (Up.any _) (cT.out.le f) d bs.out bW.out;have⟨ap,dJ⟩:=hyd2 kc d;clear d kc;go_wp2_with (fail);go_at_call 67;refine ap.out.mono ?_;rintro e w' ⟨v',rfl,y1,J⟩;obtain⟨vs,vA,vn,vc,vB,vm,vd,rfl⟩:=J.frm;have⟨ar,au⟩:=hyd2 y1 J;clear J y1;go_wp2;exact hK _ _ ar.out au.out
       ·intro A W f z Q hK hP;obtain⟨x,d,-⟩:=z;change _=_ at x d;simp only[fA,x,d]at hK ⊢;go_wp2;exact hK _ _ lrR rfl
      intro A W f z Q' aC _;have aa:RatL (λ_=>True) .i64 W (A 17) (x9+ -(c*y)):=z 17 (by decide);rw[<-Rat.sub_eq_add_neg]at aa;obtain⟨s7,A7,n7,c7,B7,m7,d7,qv⟩:=aa.frm;have bO:=z 18 (by decide);change _=_ at bO;simp only[List.drop_succ_cons,List.drop_zero];rw[show List.range 19=[0,1,2,3,4,5,6,7,8,9,10,11,12,13,14,15,16,17,18]from rfl];simp only[fA,qv,bO];clear z;rw[qv]at aa;clear qv bO;have t0:=(Below.cell f (p:=⟨gp,I*3,none⟩) L).trans b0.out;have t1:=(Below.cell f (p:=⟨gp,I*3+1,none⟩) L).trans b1.out;have t2:=(Below.cell f (p:=⟨gp,I*3+2,none⟩) L).trans b2.out;have y0:=(Y.out.p.le f).frz (I*3);have y1:=(Y.out.p.le f).frz (I*3+1);have J:=(Y.out.p.le f).frz (I*3+2);have⟨b4,a6⟩:=hyd2 aa f;clear f aa;go_wp2;refine aC _ _ ?_;clear aC t0 t1 t2 y0 y1 J;have aa:=b4.out;have f:=a6.out;clear b4 a6;have ag:=(Y.out.le f).storeP bH.out b5.out cY.out aa;rw[cf.out]at ag;obtain⟨V9,cB⟩:∃V,((W.setCell ⟨gp,I*3,none⟩ (.bool s7)).setCell ⟨gp,I*3+1,none⟩ (.slice A7 n7 c7)).setCell ⟨gp,I*3+2,none⟩ (.slice B7 m7 d7)=V:=⟨_,rfl⟩;rw[cB]at ag ⊢;have cN:V9.heap[bc]? =some (.cells #[.bool s3,.slice A3 n3 c3,.slice B3 m3 d3] 93):=(ag.2.1 bc bS.out).trans ((f.block bc ak).trans cc.out);have cJ:=(bA.out.le f).kp ag.2.2;have ag:=ag.1;clear cB aa;have⟨a6,df,cO,cK⟩:=hyd4 f ag cN cJ
      clear cJ cN ag f;go_wp2;go_roundw
      case rel=>exact⟨q+1,by go_num,by omega,df,cO,cK⟩
      case measure=>simp[intOf];omega
     ·obtain rfl:q=nq:=by omega
      have G:=af.out;rw[<-bk.out]at G;have e9:(m:Int) - ((s+1:Nat):Int)=(i:Int) - 1:=by have:=dQ.out;omega
      have eb:¬(q:Int)<(q:Int):=by omega
      have⟨an,dK⟩:=hyd2 G e9;clear e9 G;go_wp2;go_roundw
      case rel=>exact⟨s+1,by rw[dK.out],by omega,an⟩
      case measure=>simp[intOf]
   ·obtain rfl:s=m+1:=by omega
    have x:(m:Int) - ((m+1:Nat):Int)= -1:=by omega
    rw[x];have G:=af.out;have hcut:=qDl w.heap.size _ _ wr G.p (by rw[qBb,F.out];omega);have b7:=qHE (P:=P) (q:=Q) (m:=m) (by rw[F.out,C.out];exact bj) (by rw[F.out,C.out];exact hm);have aM:qAZ P Q=cutz (divS P Q m (m+1)):=by unfold qAZ;rw[F.out,C.out,if_neg bj,hm]
    have⟨an,bU,bP,bm,cz⟩:=hyd5 G hcut b7 aM x;clear x aM b7 hcut G;clear af;go_wp2_with (fail);go_at_call 69;refine bU.out.mono ?_;rintro e W2 ⟨v9,rfl,aJ,X⟩;have ay:=an.out.le aJ;rw[<-bm.out]at X
    have ab:qFu w base P Q (.returned (.tuple #[.slice (some ⟨gq,0,none⟩) mo mo,v9])) W2:=
     ⟨_,_,rfl,ay.below,ay.o.allSet bP.out,X.base hbase⟩
    have⟨dR,dF,dT,al⟩:=hyd4 aJ X ay ab;clear ab ay X aJ;go_wp2;exact bodyPost_ret (v:= .tuple #[.slice (some ⟨gq,0,none⟩) mo mo,v9]) (by simp[results,Tryz.results41,go_sem]) rfl al.out
end Go.Proofs.YtcoajjdhkhgfdaaGreat
