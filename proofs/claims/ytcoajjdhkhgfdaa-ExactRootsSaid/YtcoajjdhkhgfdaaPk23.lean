/- Polynomials, program side: exact.divided. (The regions between --@ARM and --@END are printed by gen_poly.py.) -/
import Derived.Test.YtcoajjdhkhgfdaaPk22
namespace Go.Proofs.Ytcoajjdhkhgfdaa
set_option maxRecDepth 100000
set_option maxHeartbeats 4000000
open Go.RowKit Go.Shelf
set_option linter.unusedVariables false
set_option linter.unusedSimpArgs false
theorem qHz {a b:Rat} {m n:Nat} (hb0:b≠0) (ha:Rsz a m) (hb:Rsz b n):Rsz (a / b) (m+n):=by
 have c:=ha.1;have d:=ha.2;have f:=hb.1;have g:=hb.2;rw[<-qGg hb0];obtain⟨k,q2⟩:=qGh (rneg a != rneg b) (rnum a*b.den) (a.den*rnum b) (Nat.ne_of_gt (Nat.mul_pos (qA3 a) (Nat.pos_of_ne_zero λh=>hb0 (rnum_zero.1 h))));have i:=qAK (rnum a) b.den;have j:=qAK a.den (rnum b);exact⟨by omega,by omega⟩
def subK (P q:List Rat) (i:Nat) (c:Rat) (k:Nat):List Rat:=(List.range P.length).map λj=>if i<=j/\j - i<k then P.getD j 0 - c*q.getD (j - i) 0 else P.getD j 0
def divC (P q:List Rat) (i:Nat):Rat:=P.getD (i+q.length - 1) 0 / q.getD (q.length - 1) 0
def divS (P q:List Rat) (m:Nat):Nat->List Rat
 | 0=>P
 | s+1=>subK (divS P q m s) q (m - s) (divC (divS P q m s) q (m - s)) q.length
def qAj (P q:List Rat):List Rat:=if P.length<q.length then[]else(List.range (P.length - q.length+1)).map λj=>divC (divS P q (P.length - q.length) (P.length - q.length - j)) q j
def qAI (P q:List Rat):List Rat:=if P.length<q.length then P else cutz (divS P q (P.length - q.length) (P.length - q.length+1))
def qAn (P q:List Rat) (m s:Nat):List (Option Rat):=(List.range (m+1)).map λj=>if m+1<=j+s then some (divC (divS P q m (m - j)) q j)else none
theorem qBz (P q:List Rat) (i:Nat) (c:Rat) (k:Nat):(subK P q i c k).length =P.length:=by simp[subK]
theorem qHL (P q:List Rat) (i:Nat) (c:Rat):subK P q i c 0=P:=by
 unfold subK;refine List.ext_getElem (by simp) λj d b=>?_;simp[List.getD_eq_getElem?_getD,List.getElem?_eq_getElem b]
theorem qIs {P q:List Rat} {i:Nat} {c:Rat} {k:Nat} (h:i+k<(subK P q i c k).length):(subK P q i c k)[i+k]=P.getD (i+k) 0:=by
 simp only[subK,List.getElem_map,List.getElem_range];rw[if_neg (by omega)]
theorem qIA {P q:List Rat} {i:Nat} {c:Rat} {k:Nat} (h:i+k<P.length):(subK P q i c k).set (i+k) (P.getD (i+k) 0 - c*q.getD k 0)=subK P q i c (k+1):=by
 refine List.ext_getElem (by simp[subK]) λj d f=>?_;rw[List.getElem_set]
 by_cases e:i+k=j
 ·subst e;rw[if_pos rfl];simp only[subK,List.getElem_map,List.getElem_range];rw[if_pos (by omega),show i+k - i=k by omega]
 ·rw[if_neg e];simp only[subK,List.getElem_map,List.getElem_range]
  by_cases b:i<=j/\j - i<k
  ·rw[if_pos b,if_pos (by omega)]
  ·rw[if_neg b,if_neg (by omega)]
theorem qBY (P q:List Rat) (m:Nat):∀s,(divS P q m s).length =P.length
 | 0=>rfl
 | s+1=>by unfold divS;rw[qBz,qBY P q m s]
theorem qGX (P q:List Rat) (m:Nat):qAn P q m 0=List.replicate (m+1) none:=by
 refine List.ext_getElem (by simp[qAn]) λi b c=>?_;have:i<m+1:=by simpa[qAn]using b
 simp[qAn];omega
theorem qDf (P q:List Rat) (m s:Nat):(qAn P q m s).length =m+1:=by simp[qAn]
theorem qHM {P q:List Rat} {m s:Nat} (h:s<=m):(qAn P q m s).set (m - s) (some (divC (divS P q m s) q (m - s)))=qAn P q m (s+1):=by
 refine List.ext_getElem (by simp[qAn]) λj d c=>?_;rw[List.getElem_set]
 by_cases e:m - s=j
 ·rw[if_pos e];simp only[qAn,List.getElem_map,List.getElem_range];rw[if_pos (by omega),<-e,show m - (m - s)=s by omega]
 ·rw[if_neg e];have f:j<m+1:=by simpa[qAn]using c
  simp only[qAn,List.getElem_map,List.getElem_range]
  by_cases b:m+1<=j+s
  ·rw[if_pos b,if_pos (by omega)]
  ·rw[if_neg b,if_neg (by omega)]
theorem qLK {P q:List Rat} {m s:Nat} (h:s<=m):(qAn P q m (s+1))[m - s]? =some (some (divC (divS P q m s) q (m - s))):=by
 simp only[qAn,List.getElem?_map];rw[List.getElem?_range (by omega),Option.map_some,if_pos (by omega),show m - (m - s)=s by omega]
theorem qHN {P q:List Rat} {m:Nat} (h:¬P.length<q.length) (hm:P.length - q.length=m):qAn P q m (m+1)=(qAj P q).map some:=by
 unfold qAn qAj;rw[if_neg h,hm,List.map_map];refine List.map_congr_left λj b=>?_;rw[if_pos (by omega)]
 rfl
structure DivSt (w:World) (base bq gp np cp gq mo:Nat) (vQ:Value) (Q P:List Rat) (os:List (Option Rat)) (W:World):Prop where
 below:Below base w W
 kp:Kp .u32 w W
 oth:∀b,b<w.heap.size->b≠gp->W.heap[b]? =w.heap[b]?
 p:RowE (ratK .u32) 57 base W (.slice (some ⟨gp,0,none⟩) np cp) P
 o:RowE (ratO .u32) 57 w.heap.size W (.slice (some ⟨gq,0,none⟩) mo mo) os
 q:RowE (ratK .u32) 57 bq W vQ Q
section
variable {w:World} {base bq gp np cp gq mo:Nat} {vQ:Value} {Q P:List Rat} {os:List (Option Rat)} {W V:World}
theorem DivSt.le (h:DivSt w base bq gp np cp gq mo vQ Q P os W) (hw:base<=w.heap.size) (hb:Le W V):DivSt w base bq gp np cp gq mo vQ Q P os V:=
 ⟨h.below.trans (hb.mono (Nat.le_trans hw h.below.size)),h.kp.trans (Kp.of_le hb),λb h1 h2=>(hb.block b (Nat.lt_of_lt_of_le h1 h.below.size)).trans (h.oth b h1 h2),h.p.le hb,h.o.le hb,h.q.le hb⟩
theorem DivSt.storeP (h:DivSt w base bq gp np cp gq mo vQ Q P os W) (hpq:gp≠gq) (hQ:∀b,vQ.ownBlock=some b->b≠gp) {j:Nat} (hj:j<P.length)
  {s:Bool} {A B:Option Addr} {a c b d:Nat} {r:Rat} (hr:RatL (λ_=>True) .u32 W (.agg #[.bool s,.slice A a c,.slice B b d]) r):
  DivSt w base bq gp np cp gq mo vQ Q (P.set j r) os (((W.setCell ⟨gp,j*3,none⟩ (.bool s)).setCell ⟨gp,j*3+1,none⟩ (.slice A a c)).setCell ⟨gp,j*3+2,none⟩ (.slice B b d)):=by
 have k:=(h.p.nib (g:=gp) rfl).1;have f:=RowE.store h.p (i:=j) hj (cs:=[.bool s,.slice A a c,.slice B b d]) (y:=r) ⟨_,_,_,_,_,_,_,rfl,hr⟩;have l:∀q,q≠gp->(W.setCells gp (j*3) [.bool s,.slice A a c,.slice B b d]).heap[q]? =W.heap[q]? :=λq hq=>qBH hq _ _ _;exact⟨qAu k [.bool s,.slice A a c,.slice B b d] (j*3) _ _ h.below,h.kp.trans f.2,λb n m=>(l b m).trans (h.oth b n m),f.1,h.o.keep f.2 (λq hq=>l q (by have e:gq=q:=(by simpa[Value.ownBlock]using hq);subst e;exact Ne.symm hpq)),h.q.keep f.2 λq hq=>l q (hQ q hq)⟩
theorem DivSt.storeO (h:DivSt w base bq gp np cp gq mo vQ Q P os W) (hw:base<=w.heap.size) (hpq:gp≠gq) (hQ:∀b,vQ.ownBlock=some b->b≠gq) {j:Nat} (hj:j<os.length)
  {s:Bool} {A B:Option Addr} {a c b d:Nat} {r:Rat} (hr:RatL (λ_=>True) .u32 W (.agg #[.bool s,.slice A a c,.slice B b d]) r):
  DivSt w base bq gp np cp gq mo vQ Q P (os.set j (some r)) (((W.setCell ⟨gq,j*3,none⟩ (.bool s)).setCell ⟨gq,j*3+1,none⟩ (.slice A a c)).setCell ⟨gq,j*3+2,none⟩ (.slice B b d)):=by
 have k:=(h.o.nib (g:=gq) rfl).1;have f:=RowE.store h.o (i:=j) hj (cs:=[.bool s,.slice A a c,.slice B b d]) (y:=some r) ⟨_,_,_,_,_,_,_,rfl,hr⟩;have l:∀q,q≠gq->(W.setCells gq (j*3) [.bool s,.slice A a c,.slice B b d]).heap[q]? =W.heap[q]? :=λq hq=>qBH hq _ _ _;exact⟨qAu (Nat.le_trans hw k) [.bool s,.slice A a c,.slice B b d] (j*3) _ _ h.below,h.kp.trans f.2,λb m n=>(l b (by omega)).trans (h.oth b m n),h.p.keep f.2 (λq hq=>l q (by have e:gp=q:=(by simpa[Value.ownBlock]using hq);subst e;exact hpq)),f.1,h.q.keep f.2 λq hq=>l q (hQ q hq)⟩
end
def qGr (w:World) (base:Nat) (vP:Value) (P Q:List Rat) (e:Ending) (w':World):Prop:=
 ∃va vr,e= .returned (.tuple #[va,vr])/\Below base w w'/\Kp .u32 w w'/\(∀b,b<w.heap.size->vP.ownBlock≠some b->w'.heap[b]? =w.heap[b]?)/\RowE (ratK .u32) 57 w.heap.size w' va (qAj P Q)/\RowE (ratK .u32) 57 base w' vr (qAI P Q)/\(∀b,vr.ownBlock=some b->vP.ownBlock=some b)
theorem qJ2 (base bq:Nat) (vP vQ:Value) (P Q:List Rat) (w:World) (hP:RowE (ratK .u32) 57 base w vP P) (hQ:RowE (ratK .u32) 57 bq w vQ Q) (hne:∀b,vP.ownBlock=some b->vQ.ownBlock≠some b) (hbase:base<=w.heap.size)
  (hQ0:0<Q.length) (hQt:Q.getD (Q.length - 1) 0≠0) (hlP:P.length<=1000) (hlQ:Q.length<=1000) (hsQ:∀r∈Q,Rsz r 500000) (hsP:∀s,s<=P.length - Q.length+1->∀r∈divS P Q (P.length - Q.length) s,Rsz r 500000):
  Calls Try.prog 36 #[vP,vQ] w (qGr w base vP P Q):=by
 obtain⟨AP,cP,rfl⟩:=hP.slice;obtain⟨AQ,cQ,rfl⟩:=hQ.slice;obtain⟨np,O⟩:∃n,P.length=n:=⟨_,rfl⟩;obtain⟨nq,aa⟩:∃n,Q.length=n:=⟨_,rfl⟩;rw[O]at hP hlP hne ⊢;rw[aa]at hQ hQ0 hQt hlQ hne ⊢;have M:=qLJ
 by_cases aU:np<nq
 ·have d:qAj P Q=[]:=by unfold qAj;rw[O,aa,if_pos aU]
  have e2:qAI P Q=P:=by unfold qAI;rw[O,aa,if_pos aU]
  have Y:qGr w base (.slice AP np cP) P Q (.returned (.tuple #[.slice none 0 0,.slice AP np cP])) w:=⟨_,_,rfl,Below.refl _ _,Kp.refl w,λ_ _ _=>rfl,by rw[d];exact RowE.nil _ _ _ _,by rw[e2];exact hP,λ_ h=>h⟩;have j1:(np:Int)<(nq:Int):=by omega
  have⟨bZ,ca,ag,c8,bo,aF,aE,al⟩:=hyd8 hP hQ Y hne hQt hsQ hsP M;have⟨L,D,dr,fc⟩:=hyd4 O aa d e2;clear e2 d aa O M hsP hsQ hQt hne Y hQ hP;go_enter Try.func36,Try.ntmps36;go_wp2;exact bodyPost_ret (v:= .tuple #[.slice none 0 0,.slice AP np cP]) (by simp[results,Try.results36,go_sem]) rfl ag.out
 ·obtain⟨m,hm⟩:∃m,np - nq=m:=⟨_,rfl⟩;rw[O,aa,hm]at hsP
  obtain⟨gp,du⟩:∃g,AP=some ⟨g,0,none⟩:=by
   obtain⟨g,c,d,-⟩:=hP.at (j:=0) (by omega);injection d with d;exact⟨g,d⟩
  subst du;have bC:=hP.nib (g:=gp) rfl;have en:=bC.2.1;have c1:∀s,s<=m->(divS P Q m s).length =np:=λs _=>(qBY P Q m s).trans O;have cb:∀b,(Value.slice AQ nq cQ).ownBlock =some b->b≠gp:=λb hb e=>hne gp rfl (by rw[<-e];exact hb);have cf:∀b,(Value.slice AQ nq cQ).ownBlock =some b->b<w.heap.size:=λb hb=>(hQ.nib hb).2.1;have j1:¬(np:Int)<(nq:Int):=by omega
  have j2:(np:Int) - (nq:Int)=(m:Int):=by omega
  obtain⟨mo,c7⟩:∃k,m+1=k:=⟨_,rfl⟩;have j3:(m:Int)+1=(mo:Int):=by omega
  have fj:mo<=2000:=by omega
  have fi:0<mo:=by omega
  have⟨bZ,ca,c8,bo,aF,aE,al,L⟩:=hyd8 hP hQ hne hQt hsQ hsP M O;have⟨D,c2,cc,cg,em,bs⟩:=hyd6 aa c1 cb cf bC c7;clear c7 bC cf cb c1 aa O M hsP hsQ hQt hne hQ hP;go_enter Try.func36,Try.ntmps36;go_wp2_with (at_make;go_must (refine qEy (k:= .u32) _ rfl _ _ 42 rfl w.heap.size 57 56 Try.underlying42 al.out (by decide) mo (by go_num) (by go_num) (by omega) (Nat.le_refl _) ?_);intro W0 o1 o2 o3;have cV:=Lib.hid o1;have aw:=Lib.hid o2;clear o1 o2);obtain⟨gq,aT⟩:∃g,w.heap.size=g:=⟨_,rfl⟩;have bt:DivSt w base bq gp np cP gq mo (.slice AQ nq cQ) Q (divS P Q m 0) (qAn P Q m 0) W0:=⟨aw.out.mono hbase,Kp.of_le aw.out,λb h1 _=>aw.out.block b h1,bZ.out.le aw.out,by rw[qGX,<-aT,bs.out];exact cV.out,ca.out.le aw.out⟩;have cC:gp≠gq:=by omega
  have cd:∀b,(Value.slice AQ nq cQ).ownBlock =some b->b≠gq:=λb hb=>by have:=cg.out b hb;omega
  rw[aT];have⟨bJ,eo,ce⟩:=hyd3 bt aT cd;clear cd aT bt;clear cV aw o3;rename World=>wz
  go_loopw [7] (λi wr=>∃s:Nat,i= .int .i64 ((m:Int) - (s:Int))/\s<=m+1/\Hid (DivSt w base bq gp np cP gq mo (.slice AQ nq cQ) Q (divS P Q m s) (qAn P Q m s) wr)) (λi _=>(intOf i+1).toNat)
  case atStart=>exact⟨0,by simp,Nat.zero_le _,bJ⟩
  case round=>
   obtain⟨s,rfl,hs,U⟩:=hrel
   by_cases aA:s<=m
   ·obtain⟨i,hi⟩:∃i,m - s=i:=⟨_,rfl⟩;have x:(m:Int) - (s:Int)=(i:Int):=by omega
    rw[x];have Z:(divS P Q m s).length =np:=c2.out s aA;obtain⟨Ps,a3⟩:∃l,divS P Q m s=l:=⟨_,rfl⟩
    have N:divS P Q m (s+1)=subK Ps Q i (divC Ps Q i) nq:=by
     show subK (divS P Q m s) Q (m - s) (divC (divS P Q m s) Q (m - s)) Q.length=_
     rw[a3,hi,D.out]
    have S:=qHM (P:=P) (q:=Q) aA;have am:=qLK (P:=P) (q:=Q) aA;have ap:=aE.out s hs;have ao:=aE.out (s+1) (by omega);simp only[a3,hi]at S am ap Z;rw[N]at ao;have H:=U.out;rw[a3]at H;obtain⟨c,aS⟩:∃c,divC Ps Q i=c:=⟨_,rfl⟩;rw[aS]at N S am ao;obtain⟨t,ht⟩:∃t,i+nq - 1=t:=⟨_,rfl⟩;have aK:t<Ps.length:=by rw[Z];omega
    obtain⟨g1,fa,d,-,b9,-,-,cs,B,a7⟩:=H.p.at aK;rw[Z]at d;injection d with d e2 e3;injection d with d;injection d with d;subst d e3;clear e2;have bf:Ps.getD t 0=Ps[t]:=by rw[List.getD_eq_getElem?_getD,List.getElem?_eq_getElem aK];rfl
    have aZ:Rsz Ps[t] 500000:=ap _ (List.getElem_mem aK);generalize Ps[t]=a at B bf aZ;obtain⟨s1,A1,n1,d1,B1,m1,f1,rfl,ci⟩:=B;have bE:nq - 1<Q.length:=by rw[D.out];omega
    obtain⟨g2,fb,d,-,bA,-,-,cs,B,av⟩:=H.q.at bE;rw[D.out]at d;injection d with d e2 e3;subst d e3;clear e2;have aC:Q.getD (nq - 1) 0=Q[nq - 1]:=by rw[List.getD_eq_getElem?_getD,List.getElem?_eq_getElem bE];rfl
    have ba:Rsz Q[nq - 1] 500000:=aF.out _ (List.getElem_mem bE);have aP:Q[nq - 1]≠0:=by rw[<-aC];exact bo.out
    generalize Q[nq - 1]=b at B aC ba aP;obtain⟨s2,A2,n2,d2,B2,m2,f2,rfl,cm⟩:=B;have a5:c=a / b:=by rw[<-aS,<-bf,<-aC];unfold divC;rw[D.out,ht]
    have bu:Rsz c 1000000:=by rw[a5];exact qHz aP aZ ba
    obtain⟨l9,bF⟩:∃l,nq - 1=l:=⟨_,rfl⟩;rw[bF]at av;have x0:wr.cell? ⟨gp,t*3,none⟩=some (.bool s1):=a7 0 _ rfl;have x1:wr.cell? ⟨gp,t*3+1,none⟩=some (.slice A1 n1 d1):=a7 1 _ rfl;have x2:wr.cell? ⟨gp,t*3+2,none⟩=some (.slice B1 m1 f1):=a7 2 _ rfl;have z0:wr.cell? ⟨g2,l9*3,none⟩=some (.bool s2):=av 0 _ rfl;have z1:wr.cell? ⟨g2,l9*3+1,none⟩=some (.slice A2 n2 d2):=av 1 _ rfl;have z2:wr.cell? ⟨g2,l9*3+2,none⟩=some (.slice B2 m2 f2):=av 2 _ rfl;have bD:i<(qAn P Q m s).length :=by rw[qDf];omega
    obtain⟨u0,u1,u2,cK,cM,cO⟩:∃u0 u1 u2,wr.cell? ⟨gq,i*3,none⟩=some u0/\wr.cell? ⟨gq,i*3+1,none⟩=some u1/\wr.cell? ⟨gq,i*3+2,none⟩=some u2:=by
     obtain⟨g',c',d,-,-,-,-,cs,B,hc⟩:=H.o.at bD;injection d with d e2 e3;injection d with d;injection d with d;subst d;have hl:=(ratO .u32).len B
     match cs,hl with
     | [a0,a1,a2],_=>exact⟨a0,a1,a2,hc 0 _ rfl,hc 1 _ rfl,hc 2 _ rfl⟩
    have a8:=(H.o.nib (g:=gq) rfl).2.1;obtain⟨t1,cJ⟩:∃k,i+nq=k:=⟨_,rfl⟩;have j4:(i:Int)+(nq:Int)=(t1:Int):=by omega
    have j5:(t1:Int) - 1=(t:Int):=by omega
    have fu:t1<=2000:=by omega
    have j6:(nq:Int) - 1=(l9:Int):=by omega
    have j7:(t:Int)<(np:Int):=by omega
    have j8:(l9:Int)<(nq:Int):=by omega
    have j9:(i:Int)<(mo:Int):=by have:=bs.out;omega
    have fo:(0:Int)<=(i:Int):=by omega
    have fp:(0:Int)<=(t:Int):=by omega
    have fq:(0:Int)<=(l9:Int):=by omega
    have fg:i+nq<=np:=by omega
    clear U;have⟨ah,ed,aV,aW,bH,bK,d0,E⟩:=hyd8 Z a3 N S am ap ao H;have⟨eh,fm,eu,cj,cn,et,er,cG⟩:=hyd8 aS ht aK ci cm bf aC aZ;have⟨cH,ck,b7,aG,ep,bh,bi,bj⟩:=hyd8 ba aP a5 bu bF x0 x1 x2;have⟨bQ,bR,bS,cw,cL,cN,cR,ek⟩:=hyd8 z0 z1 z2 bD cK cM cO a7;have⟨el,dw,dq,dB,dC,dD,es⟩:=hyd7 av hi x j4 j5 j6 cJ;clear cJ j6 j5 j4 x hi av a7 cO cM cK bD z2 z1 z0 x2 x1 x0 bF bu a5 aP ba aZ aC bf cm ci aK ht aS H ao ap am S N a3 Z;go_wp2_with (fail);refine qAV (R:=leRel) 16 [some 31,some 32,some 33,some 34,some 35,some 36,some 37,some 38,some 39,some 40,some 41,some 42,some 43,some 44,some 45,some 46,none] [[],[],[],[],[],[3,4],[5],[2,6],[7],[],[],[10],[9,11],[12],[8,13],[0,1],[14,15]]
     [.eq (.slice (some ⟨gq,0,none⟩) mo mo),.eq (.int .i64 (i:Int)),.eq (.slice (some ⟨gp,0,none⟩) np cP),.eq (.int .i64 (i:Int)),.eq (.int .i64 (nq:Int)),.eq (.int .i64 (t1:Int)),.eq (.int .i64 (t:Int)),.eq (.pointer (some ⟨gp,t*3,none⟩)),.eq (.agg #[.bool s1,.slice A1 n1 d1,.slice B1 m1 f1]),.eq (.slice (some ⟨g2,0,none⟩) nq cQ),.eq (.int .i64 (nq:Int)),.eq (.int .i64 (l9:Int)),.eq (.pointer (some ⟨g2,l9*3,none⟩)),.eq (.agg #[.bool s2,.slice A2 n2 d2,.slice B2 m2 f2]),MPred.ratU (a / b),.eq (.pointer (some ⟨gq,i*3,none⟩))] (λ_ _=>False) (by kernel_rfl) (by kernel_rfl) (by kernel_rfl) (by kernel_rfl) (by kernel_rfl) ?_ (λ_ _ _ _ h=>h.elim) ?_
    ·simp only[List.take_succ_cons,List.take_zero];refine sMc rfl ?_ (sMc rfl ?_ (sMc rfl ?_ (sMc rfl ?_ (sMc rfl ?_ (sMc rfl ?_ (sMc rfl ?_ (sMc rfl ?_ (sMc rfl ?_ (sMc rfl ?_ (sMc rfl ?_ (sMc rfl ?_ (sMc rfl ?_ (sMc rfl ?_ (sMc rfl ?_ (sMc rfl ?_ (qA2))))))))))))))))
     ·intro A W f z Q hK hP;simp only[fA]at hK ⊢;go_wp2;exact hK _ _ lrR rfl
     ·intro A W f z Q hK hP;simp only[fA]at hK ⊢;go_wp2;exact hK _ _ lrR rfl
     ·intro A W f z Q hK hP;simp only[fA]at hK ⊢;go_wp2;exact hK _ _ lrR rfl
     ·intro A W f z Q hK hP;simp only[fA]at hK ⊢;go_wp2;exact hK _ _ lrR rfl
     ·intro A W f z Q hK hP;simp only[fA]at hK ⊢;go_wp2;exact hK _ _ lrR rfl
     ·intro A W f z Q hK hP;obtain⟨x,d,-⟩:=z;change _=_ at x d;have jj:=dB.out;simp only[fA,x,d]at hK ⊢;go_wp2;exact hK _ _ lrR (by show Value.int _ _=Value.int _ _;congr 1)
     ·intro A W f z Q hK hP;obtain⟨x,-⟩:=z;change _=_ at x;have jj:=dC.out;simp only[fA,x]at hK ⊢;go_wp2;exact hK _ _ lrR (by show Value.int _ _=Value.int _ _;congr 1)
     ·intro A W f z Q hK hP;obtain⟨x,d,-⟩:=z;change _=_ at x d;simp only[fA,x,d]at hK ⊢;go_wp2;exact hK _ _ lrR rfl
     ·intro A W f z Q hK hP;obtain⟨x,-⟩:=z;change _=_ at x;have t0:=(Below.cell f (p:=⟨gp,t*3,none⟩) b9).trans bh.out;have t1:=(Below.cell f (p:=⟨gp,t*3+1,none⟩) b9).trans bi.out;have t2:=(Below.cell f (p:=⟨gp,t*3+2,none⟩) b9).trans bj.out;simp only[fA,x]at hK ⊢;go_wp2;exact hK _ _ lrR rfl
     ·intro A W f z Q hK hP;simp only[fA]at hK ⊢;go_wp2;exact hK _ _ lrR rfl
     ·intro A W f z Q hK hP;simp only[fA]at hK ⊢;go_wp2;exact hK _ _ lrR rfl
     ·intro A W f z Q hK hP;obtain⟨x,-⟩:=z;change _=_ at x;have jj:=dD.out;simp only[fA,x]at hK ⊢;go_wp2;exact hK _ _ lrR (by show Value.int _ _=Value.int _ _;congr 1)
     ·intro A W f z Q hK hP;obtain⟨x,d,-⟩:=z;change _=_ at x d;simp only[fA,x,d]at hK ⊢;go_wp2;exact hK _ _ lrR rfl
     ·intro A W f z Q hK hP;obtain⟨x,-⟩:=z;change _=_ at x;have t0:=(Below.cell f (p:=⟨g2,l9*3,none⟩) bA).trans bQ.out;have t1:=(Below.cell f (p:=⟨g2,l9*3+1,none⟩) bA).trans bR.out;have t2:=(Below.cell f (p:=⟨g2,l9*3+2,none⟩) bA).trans bS.out;simp only[fA,x]at hK ⊢;go_wp2;exact hK _ _ lrR rfl
     ·intro A W f z Q hK hP;obtain⟨x,d,-⟩:=z;change _=_ at x d;simp only[fA,x,d]at hK ⊢;have kc:=qLA (λ_=>True) a b _ _ W (Up.any _) (cj.out.le f) (cn.out.le f) (qA0 cG.out (by decide)) (qA0 cH.out (by decide)) ck.out;have aL:=hyd1 kc;clear kc;go_wp2_with (fail);go_at_call 68;refine aL.out.mono ?_;rintro e w' ⟨v',rfl,y1,y2⟩;obtain⟨vs,vA,vn,vc,vB,vm,vd,rfl⟩:=y2.frm;have⟨aN,aO⟩:=hyd2 y1 y2;clear y2 y1;go_wp2;exact hK _ _ aN.out aO.out
     ·intro A W f z Q hK hP;obtain⟨x,d,-⟩:=z;change _=_ at x d;simp only[fA,x,d]at hK ⊢;go_wp2;exact hK _ _ lrR rfl
    intro A W f z Q' a4 _;have X:RatL (λ_=>True) .u32 W (A 14) (a / b):=z 14 (by decide);obtain⟨s3,A3,n3,c3,B3,m3,d3,qv⟩:=X.frm;have b2:=z 15 (by decide);change _=_ at b2;simp only[List.drop_succ_cons,List.drop_zero];rw[show List.range 16=[0,1,2,3,4,5,6,7,8,9,10,11,12,13,14,15]from rfl];simp only[fA,qv,b2];clear z;rw[qv]at X;clear qv b2;have t0:=(Below.cell f (p:=⟨gq,i*3,none⟩) a8).trans cL.out;have t1:=(Below.cell f (p:=⟨gq,i*3+1,none⟩) a8).trans cN.out;have t2:=(Below.cell f (p:=⟨gq,i*3+2,none⟩) a8).trans cR.out;have y0:=(E.out.o.le f).frz (i*3);have y1:=(E.out.o.le f).frz (i*3+1);have y2:=(E.out.o.le f).frz (i*3+2);have⟨bl,af⟩:=hyd2 X f;clear f X;go_wp2;refine a4 _ _ ?_;clear a4 t0 t1 t2 y0 y1 y2;have X:=bl.out;have f:=af.out;clear bl af;have br:=RatL.kp (W:=((W.setCell ⟨gq,i*3,none⟩ (.bool s3)).setCell ⟨gq,i*3+1,none⟩ (.slice A3 n3 c3)).setCell ⟨gq,i*3+2,none⟩ (.slice B3 m3 d3)) X (qCX (k:= .u32) [.bool s3,.slice A3 n3 c3,.slice B3 m3 d3] W (i*3) ((E.out.o.le f).nib (g:=gq) rfl).2.2 (λu hu=>by simp only[List.mem_cons,List.not_mem_nil,or_false]at hu;rcases hu with rfl|rfl|rfl<;>first |exact qAO _|exact qAF _ _ _)).1;have aY:=(E.out.le hbase f).storeO hbase cC ce.out cw.out X;rw[<-b7.out,aW.out]at aY;obtain⟨V,hV⟩:∃V,((W.setCell ⟨gq,i*3,none⟩ (.bool s3)).setCell ⟨gq,i*3+1,none⟩ (.slice A3 n3 c3)).setCell ⟨gq,i*3+2,none⟩ (.slice B3 m3 d3)=V:=⟨_,rfl⟩
    rw[hV]at aY br ⊢;have cE:DivSt w base bq gp np cP gq mo (.slice (some ⟨g2,0,none⟩) nq cQ) Q (subK Ps Q i c 0) (qAn P Q m (s+1)) V:=by rw[qHL];exact aY
    clear hV X br aY;have⟨af,cF⟩:=hyd2 f cE;clear cE f;clear E;go_wp2_with (fail);rename World=>wy
    go_loopw [49] (λi' wr=>∃q:Nat,i'= .int .i64 (q:Int)/\q<=nq/\Hid (DivSt w base bq gp np cP gq mo (.slice (some ⟨g2,0,none⟩) nq cQ) Q (subK Ps Q i c q) (qAn P Q m (s+1)) wr)) (λi' _=>nq - (intOf i').toNat)
    case atStart=>exact⟨0,rfl,Nat.zero_le _,cF⟩
    case round=>
     obtain⟨q,rfl,fk,U⟩:=hrel
     by_cases cD:q<nq
     ·have bG:q<Q.length:=by rw[D.out];exact cD
      obtain⟨gy,cy,d,-,ff,-,-,cs,B,hc⟩:=U.out.q.at bG;rw[D.out]at d;injection d with d e2 e3;injection d with d;injection d with d;subst d e3;clear e2;have bg:Q.getD q 0=Q[q]:=by rw[List.getD_eq_getElem?_getD,List.getElem?_eq_getElem bG];rfl
      have ac:Rsz Q[q] 500000:=aF.out _ (List.getElem_mem bG);generalize Q[q]=y at B bg ac;obtain⟨s5,A5,n5,c5,B5,m5,d5,rfl,bM⟩:=B;have q0:wr.cell? ⟨g2,q*3,none⟩=some (.bool s5):=hc 0 _ rfl;have q1:wr.cell? ⟨g2,q*3+1,none⟩=some (.slice A5 n5 c5):=hc 1 _ rfl;have q2:wr.cell? ⟨g2,q*3+2,none⟩=some (.slice B5 m5 d5):=hc 2 _ rfl;obtain⟨W2,dv,aQ,k2⟩:=enew wr (.cells #[.bool s5,.slice A5 n5 c5,.slice B5 m5 d5] 57);have C:=U.out.le hbase aQ;have bv:=bM.le aQ;have aB:i+q<(subK Ps Q i c q).length :=by rw[qBz,ah.out];omega
      obtain⟨gl,cl,d,-,J,-,-,cs,B,au⟩:=C.p.at aB;rw[qBz,ah.out]at d;injection d with d e2 e3;injection d with d;injection d with d;subst d;clear e2 e3;have b5:=qIs aB;have ab:=qIA (P:=Ps) (q:=Q) (i:=i) (c:=c) (k:=q) (by rw[ah.out];omega);have an:Rsz (Ps.getD (i+q) 0) 500000:=qEJ bK.out (by decide) (i+q);rw[b5]at B;obtain⟨x9,bL⟩:∃l,Ps.getD (i+q) 0=l:=⟨_,rfl⟩;rw[bL]at B an ab;rw[bg]at ab;obtain⟨s4,A4,n4,c4,B4,m4,d4,rfl,cz⟩:=B;have cA:i<(qAn P Q m (s+1)).length :=by rw[qDf];omega
      obtain⟨go,co,d,-,bB,-,-,cs,B,a6⟩:=C.o.at cA;injection d with d e2 e3;injection d with d;injection d with d;subst d;clear e2 e3
      have B:(ratK .u32).rd W2 cs c:=by
       have h9:=B;have h8:=bH.out;rw[List.getElem?_eq_getElem cA]at h8;injection h8 with h8;rw[h8]at h9;exact h9
      obtain⟨s6,A6,n6,c6,B6,m6,d6,rfl,cq⟩:=B;obtain⟨I,cx⟩:∃m,i+q=m:=⟨_,rfl⟩;rw[cx]at ab au aB;have x0:W2.cell? ⟨gp,I*3,none⟩=some (.bool s4):=au 0 _ rfl;have x1:W2.cell? ⟨gp,I*3+1,none⟩=some (.slice A4 n4 c4):=au 1 _ rfl;have x2:W2.cell? ⟨gp,I*3+2,none⟩=some (.slice B4 m4 d4):=au 2 _ rfl;have r0:W2.cell? ⟨gq,i*3,none⟩=some (.bool s6):=a6 0 _ rfl;have r1:W2.cell? ⟨gq,i*3+1,none⟩=some (.slice A6 n6 c6):=a6 1 _ rfl;have r2:W2.cell? ⟨gq,i*3+2,none⟩=some (.slice B6 m6 d6):=a6 2 _ rfl;have z0:=cell_of_row W2 wr.heap.size 0 _ _ _ k2;have z1:=cell_of_row W2 wr.heap.size 1 _ _ _ k2;have z2:=cell_of_row W2 wr.heap.size 2 _ _ _ k2;have bO:=gsl k2;have ct:Rsz (c*y) 2000000:=qA0 (qHy aG.out ac) (by decide);have aI:Rsz x9 2000000:=qA0 an (by decide);have aH:Rsz c 5000000:=qA0 aG.out (by decide);have aJ:Rsz y 5000000:=qA0 ac (by decide);have dA:(q:Int)<(nq:Int):=by omega
      have fr:(0:Int)<=(q:Int):=by omega
      have cS:(i:Int)+(q:Int)=(I:Int):=by omega
      have fs:(I:Int)<(np:Int):=by omega
      have ft:(0:Int)<=(I:Int):=by omega
      have df:I<1000:=by omega
      clear cx U;have⟨ex,d7,ey,eg,fv,F,bN,ef⟩:=hyd8 bg ac bM aQ k2 C bv b5;have⟨bI,dz,ew,c0,cr,cu,bd,bc⟩:=hyd8 ab an bL cz cq ct aI aH;have⟨be,bh,bi,bj,dG,dH,dI,bQ⟩:=hyd8 aJ x0 x1 x2 r0 r1 r2 z0;have⟨bR,bS,fe,ei,ej,cB,bw⟩:=hyd7 z1 z2 hc au a6 aB cS;clear cS aB a6 au hc z2 z1 z0 r2 r1 r0 x2 x1 x0 aJ aH aI ct cq cz bL an ab b5 bv C k2 aQ bM ac bg;go_wp2_with (fail);clear dv q0 q1 q2;refine qAV (R:=leRel) 18 [some 54,some 55,some 56,some 57,some 58,some 59,some 60,some 61,some 62,some 63,some 64,some 65,some 66,some 67,some 68,some 69,some 70,some 71,none] [[],[],[],[1,2],[],[],[],[5,6],[4,7],[8],[],[],[10,11],[12],[],[13,14],[9,15],[0,3],[16,17]]
       [.eq (.slice (some ⟨gp,0,none⟩) np cP),.eq (.int .i64 (i:Int)),.eq (.int .i64 (q:Int)),.eq (.int .i64 (I:Int)),.eq (.slice (some ⟨gp,0,none⟩) np cP),.eq (.int .i64 (i:Int)),.eq (.int .i64 (q:Int)),.eq (.int .i64 (I:Int)),.eq (.pointer (some ⟨gp,I*3,none⟩)),.eq (.agg #[.bool s4,.slice A4 n4 c4,.slice B4 m4 d4]),.eq (.slice (some ⟨gq,0,none⟩) mo mo),.eq (.int .i64 (i:Int)),.eq (.pointer (some ⟨gq,i*3,none⟩)),.eq (.agg #[.bool s6,.slice A6 n6 c6,.slice B6 m6 d6]),.eq (.agg #[.bool s5,.slice A5 n5 c5,.slice B5 m5 d5]),MPred.ratU (c*y),MPred.ratU (x9 - c*y),.eq (.pointer (some ⟨gp,I*3,none⟩))] (λ_ _=>False) (by kernel_rfl) (by kernel_rfl) (by kernel_rfl) (by kernel_rfl) (by kernel_rfl) ?_ (λ_ _ _ _ h=>h.elim) ?_
      ·simp only[List.take_succ_cons,List.take_zero];refine sMc rfl ?_ (sMc rfl ?_ (sMc rfl ?_ (sMc rfl ?_ (sMc rfl ?_ (sMc rfl ?_ (sMc rfl ?_ (sMc rfl ?_ (sMc rfl ?_ (sMc rfl ?_ (sMc rfl ?_ (sMc rfl ?_ (sMc rfl ?_ (sMc rfl ?_ (sMc rfl ?_ (sMc rfl ?_ (sMc rfl ?_ (sMc rfl ?_ (qA2))))))))))))))))))
       ·intro A W f z Q hK hP;simp only[fA]at hK ⊢;go_wp2;exact hK _ _ lrR rfl
       ·intro A W f z Q hK hP;simp only[fA]at hK ⊢;go_wp2;exact hK _ _ lrR rfl
       ·intro A W f z Q hK hP;simp only[fA]at hK ⊢;go_wp2;exact hK _ _ lrR rfl
       ·intro A W f z Q hK hP;obtain⟨x,d,-⟩:=z;change _=_ at x d;have jj:=bw.out;simp only[fA,x,d]at hK ⊢;go_wp2;exact hK _ _ lrR (by show Value.int _ _=Value.int _ _;congr 1)
       ·intro A W f z Q hK hP;simp only[fA]at hK ⊢;go_wp2;exact hK _ _ lrR rfl
       ·intro A W f z Q hK hP;simp only[fA]at hK ⊢;go_wp2;exact hK _ _ lrR rfl
       ·intro A W f z Q hK hP;simp only[fA]at hK ⊢;go_wp2;exact hK _ _ lrR rfl
       ·intro A W f z Q hK hP;obtain⟨x,d,-⟩:=z;change _=_ at x d;have jj:=bw.out;simp only[fA,x,d]at hK ⊢;go_wp2;exact hK _ _ lrR (by show Value.int _ _=Value.int _ _;congr 1)
       ·intro A W f z Q hK hP;obtain⟨x,d,-⟩:=z;change _=_ at x d;simp only[fA,x,d]at hK ⊢;go_wp2;exact hK _ _ lrR rfl
       ·intro A W f z Q hK hP;obtain⟨x,-⟩:=z;change _=_ at x;have t0:=(Below.cell f (p:=⟨gp,I*3,none⟩) J).trans bh.out;have t1:=(Below.cell f (p:=⟨gp,I*3+1,none⟩) J).trans bi.out;have t2:=(Below.cell f (p:=⟨gp,I*3+2,none⟩) J).trans bj.out;simp only[fA,x]at hK ⊢;go_wp2;exact hK _ _ lrR rfl
       ·intro A W f z Q hK hP;simp only[fA]at hK ⊢;go_wp2;exact hK _ _ lrR rfl
       ·intro A W f z Q hK hP;simp only[fA]at hK ⊢;go_wp2;exact hK _ _ lrR rfl
       ·intro A W f z Q hK hP;obtain⟨x,d,-⟩:=z;change _=_ at x d;simp only[fA,x,d]at hK ⊢;go_wp2;exact hK _ _ lrR rfl
       ·intro A W f z Q hK hP;obtain⟨x,-⟩:=z;change _=_ at x;have t0:=(Below.cell f (p:=⟨gq,i*3,none⟩) bB).trans dG.out;have t1:=(Below.cell f (p:=⟨gq,i*3+1,none⟩) bB).trans dH.out;have t2:=(Below.cell f (p:=⟨gq,i*3+2,none⟩) bB).trans dI.out;simp only[fA,x]at hK ⊢;go_wp2;exact hK _ _ lrR rfl
       ·intro A W f z Q hK hP;have t0:=(Below.cell f (p:=⟨wr.heap.size,0,none⟩) bO).trans bQ.out;have t1:=(Below.cell f (p:=⟨wr.heap.size,1,none⟩) bO).trans bR.out;have t2:=(Below.cell f (p:=⟨wr.heap.size,2,none⟩) bO).trans bS.out;simp only[fA]at hK ⊢;go_wp2;exact hK _ _ lrR rfl
       ·intro A W f z Q hK hP;obtain⟨x,d,-⟩:=z;change _=_ at x d;simp only[fA,x,d]at hK ⊢;have kc:=qKE (λ_=>True) c y _ _ W (Up.any _) (cr.out.le f) (bN.out.le f) bc.out be.out;have aL:=hyd1 kc;clear kc;go_wp2_with (fail);go_at_call 69;refine aL.out.mono ?_;rintro e w' ⟨v',rfl,y1,y2⟩;obtain⟨vs,vA,vn,vc,vB,vm,vd,rfl⟩:=y2.frm;have⟨aN,aO⟩:=hyd2 y1 y2;clear y2 y1;go_wp2;exact hK _ _ aN.out aO.out
       ·intro A W f z Q hK hP;obtain⟨x,d,-⟩:=z;change _=_ at x;replace d:RatL (λ_=>True) .u32 W (A 15) (c*y):=d;obtain⟨ws,wA,wn,wc,wB,wm,wd,qw⟩:=d.frm;rw[qw]at d;simp only[fA,x,qw]at hK ⊢;have kc:=qHI (λ_=>True) x9 (c*y) _ _ W (Up.any _) (c0.out.le f) d bd.out cu.out;have⟨aL,dr⟩:=hyd2 kc d;clear d kc;go_wp2_with (fail);go_at_call 24;refine aL.out.mono ?_;rintro e w' ⟨v',rfl,y1,y2⟩;obtain⟨vs,vA,vn,vc,vB,vm,vd,rfl⟩:=y2.frm;have⟨aN,aO⟩:=hyd2 y1 y2;clear y2 y1;go_wp2;exact hK _ _ aN.out aO.out
       ·intro A W f z Q hK hP;obtain⟨x,d,-⟩:=z;change _=_ at x d;simp only[fA,x,d]at hK ⊢;go_wp2;exact hK _ _ lrR rfl
      intro A W f z Q' a4 _;have ae:RatL (λ_=>True) .u32 W (A 16) (x9 - c*y):=z 16 (by decide);obtain⟨s3,A3,n3,c3,B3,m3,d3,qv⟩:=ae.frm;have b3:=z 17 (by decide);change _=_ at b3;simp only[List.drop_succ_cons,List.drop_zero];rw[show List.range 18=[0,1,2,3,4,5,6,7,8,9,10,11,12,13,14,15,16,17]from rfl];simp only[fA,qv,b3];clear z;rw[qv]at ae;clear qv b3;have t0:=(Below.cell f (p:=⟨gp,I*3,none⟩) J).trans bh.out;have t1:=(Below.cell f (p:=⟨gp,I*3+1,none⟩) J).trans bi.out;have t2:=(Below.cell f (p:=⟨gp,I*3+2,none⟩) J).trans bj.out;have y0:=(F.out.p.le f).frz (I*3);have y1:=(F.out.p.le f).frz (I*3+1);have y2:=(F.out.p.le f).frz (I*3+2);have⟨bm,af⟩:=hyd2 ae f;clear f ae;go_wp2;refine a4 _ _ ?_;clear a4 t0 t1 t2 y0 y1 y2;have ae:=bm.out;have f:=af.out;clear bm af;have bb:=(F.out.le hbase f).storeP cC cc.out cB.out ae;rw[bI.out]at bb;obtain⟨V9,ch⟩:∃V,((W.setCell ⟨gp,I*3,none⟩ (.bool s3)).setCell ⟨gp,I*3+1,none⟩ (.slice A3 n3 c3)).setCell ⟨gp,I*3+2,none⟩ (.slice B3 m3 d3)=V:=⟨_,rfl⟩;rw[ch]at bb ⊢;clear ch ae;have⟨af,cI⟩:=hyd2 f bb;clear bb f;go_wp2;go_roundw
      case rel=>exact⟨q+1,by go_num,by omega,cI⟩
      case measure=>simp[intOf];omega
     ·obtain rfl:q=nq:=by omega
      have G:=U.out;rw[<-aV.out]at G;have e9:(m:Int) - ((s+1:Nat):Int)=(i:Int) - 1:=by have:=dw.out;omega
      have dA:¬(q:Int)<(q:Int):=by omega
      have⟨ai,ds⟩:=hyd2 G e9;clear e9 G;go_wp2;go_roundw
      case rel=>exact⟨s+1,by rw[ds.out],by omega,ai⟩
      case measure=>simp[intOf]
   ·obtain rfl:s=m+1:=by omega
    have x:(m:Int) - ((m+1:Nat):Int)= -1:=by omega
    rw[x];have G:=U.out;have hcut:=qMC base _ _ wr G.p (by rw[qBY,L.out];omega);rw[qBY,L.out]at hcut;have bp:=qHN (P:=P) (q:=Q) (m:=m) (by rw[L.out,D.out];exact aU) (by rw[L.out,D.out];exact hm);have aD:qAI P Q=cutz (divS P Q m (m+1)):=by unfold qAI;rw[L.out,D.out,if_neg aU,hm]
    have⟨ai,b8,b4,aX,dq⟩:=hyd5 G hcut bp aD x;clear x aD bp hcut G;clear U;go_wp2_with (fail);go_at_call 70;refine b8.out.mono ?_;rintro e W2 ⟨A9,c9,d,rfl,a9,T⟩;injection d with d e2 e3;subst d e3;clear e2;have C:=ai.out.le hbase a9;rw[<-aX.out]at T
    have Y:qGr w base (.slice (some ⟨gp,0,none⟩) np cP) P Q (.returned (.tuple #[.slice (some ⟨gq,0,none⟩) mo mo,.slice (some ⟨gp,0,none⟩) (topN (divS P Q m (m+1)) np) cP])) W2:=
     ⟨_,_,rfl,C.below,C.kp,λb h1 h2=>C.oth b h1 λe=>h2 (by rw[e];rfl),C.o.allSet b4.out,T,λb hb=>hb⟩
    have⟨dx,di,F,ag⟩:=hyd4 a9 T C Y;clear Y C T a9;go_wp2;exact bodyPost_ret (v:= .tuple #[.slice (some ⟨gq,0,none⟩) mo mo,.slice (some ⟨gp,0,none⟩) (topN (divS P Q m (m+1)) np) cP]) (by simp[results,Try.results36,go_sem]) rfl ag.out
end Go.Proofs.Ytcoajjdhkhgfdaa
