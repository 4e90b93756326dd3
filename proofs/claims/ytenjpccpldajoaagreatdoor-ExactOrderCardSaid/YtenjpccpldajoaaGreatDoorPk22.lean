/- Polynomials, program side: exact.divided. (The regions between --@ARM and --@END are printed by gen_poly.py.) -/
import Derived.Test.YtenjpccpldajoaaGreatDoorPk21
namespace Go.Proofs.YtenjpccpldajoaaGreatDoor
set_option maxRecDepth 100000
set_option maxHeartbeats 4000000
open Go.RowKit Go.Shelf
set_option linter.unusedVariables false
set_option linter.unusedSimpArgs false
theorem qPS {a b:Rat} {m n:Nat} (hb0:b≠0) (ha:Rsz a m) (hb:Rsz b n):Rsz (a / b) (m+n):=by
 have ha1:=ha.1;have ha2:=ha.2;have hb1:=hb.1;have hb2:=hb.2;rw[←qGE hb0];obtain⟨q1,q2⟩:=qDF (rneg a != rneg b) (rnum a*b.den) (a.den*rnum b) (Nat.ne_of_gt (Nat.mul_pos (qAU a) (Nat.pos_of_ne_zero fun h=>hb0 (rnum_zero.1 h))));have m1:=qAN (rnum a) b.den;have m2:=qAN a.den (rnum b);exact⟨by omega,by omega⟩
def subK (P q:List Rat) (i:Nat) (c:Rat) (k:Nat):List Rat:=(List.range P.length).map fun j=>if i≤j∧j - i<k then P.getD j 0 - c*q.getD (j - i) 0 else P.getD j 0
def divC (P q:List Rat) (i:Nat):Rat:=P.getD (i+q.length - 1) 0 / q.getD (q.length - 1) 0
def divS (P q:List Rat) (m:Nat):Nat→List Rat
 | 0=>P
 | s+1=>subK (divS P q m s) q (m - s) (divC (divS P q m s) q (m - s)) q.length
def qBS (P q:List Rat):List Rat:=if P.length<q.length then[]else(List.range (P.length - q.length+1)).map fun j=>divC (divS P q (P.length - q.length) (P.length - q.length - j)) q j
def qBH (P q:List Rat):List Rat:=if P.length<q.length then P else cutz (divS P q (P.length - q.length) (P.length - q.length+1))
def qBT (P q:List Rat) (m s:Nat):List (Option Rat):=(List.range (m+1)).map fun j=>if m+1≤j+s then some (divC (divS P q m (m - j)) q j)else none
theorem qDn (P q:List Rat) (i:Nat) (c:Rat) (k:Nat):(subK P q i c k).length =P.length:=by simp[subK]
theorem qMd (P q:List Rat) (i:Nat) (c:Rat):subK P q i c 0=P:=by
 unfold subK;refine List.ext_getElem (by simp) fun j h1 h2=>?_;simp[List.getD_eq_getElem?_getD,List.getElem?_eq_getElem h2]
theorem qOj {P q:List Rat} {i:Nat} {c:Rat} {k:Nat} (h:i+k<(subK P q i c k).length):(subK P q i c k)[i+k]=P.getD (i+k) 0:=by
 simp only[subK,List.getElem_map,List.getElem_range];rw[if_neg (by omega)]
theorem qNm {P q:List Rat} {i:Nat} {c:Rat} {k:Nat} (h:i+k<P.length):(subK P q i c k).set (i+k) (P.getD (i+k) 0 - c*q.getD k 0)=subK P q i c (k+1):=by
 refine List.ext_getElem (by simp[subK]) fun j h1 h2=>?_;rw[List.getElem_set]
 by_cases e:i+k=j
 ·subst e;rw[if_pos rfl];simp only[subK,List.getElem_map,List.getElem_range];rw[if_pos (by omega),show i+k - i=k by omega]
 ·rw[if_neg e];simp only[subK,List.getElem_map,List.getElem_range]
  by_cases h3:i≤j∧j - i<k
  ·rw[if_pos h3,if_pos (by omega)]
  ·rw[if_neg h3,if_neg (by omega)]
theorem qCv (P q:List Rat) (m:Nat):∀s,(divS P q m s).length =P.length
 | 0=>rfl
 | s+1=>by unfold divS;rw[qDn,qCv P q m s]
theorem qL1 (P q:List Rat) (m:Nat):qBT P q m 0=List.replicate (m+1) none:=by
 refine List.ext_getElem (by simp[qBT]) fun i h1 h2=>?_;have:i<m+1:=by simpa[qBT]using h1
 simp[qBT];omega
theorem qFl (P q:List Rat) (m s:Nat):(qBT P q m s).length =m+1:=by simp[qBT]
theorem qMe {P q:List Rat} {m s:Nat} (h:s≤m):(qBT P q m s).set (m - s) (some (divC (divS P q m s) q (m - s)))=qBT P q m (s+1):=by
 refine List.ext_getElem (by simp[qBT]) fun j h1 h2=>?_;rw[List.getElem_set]
 by_cases e:m - s=j
 ·rw[if_pos e];simp only[qBT,List.getElem_map,List.getElem_range];rw[if_pos (by omega),←e,show m - (m - s)=s by omega]
 ·rw[if_neg e];have hj:j<m+1:=by simpa[qBT]using h2
  simp only[qBT,List.getElem_map,List.getElem_range]
  by_cases h3:m+1≤j+s
  ·rw[if_pos h3,if_pos (by omega)]
  ·rw[if_neg h3,if_neg (by omega)]
theorem qNn {P q:List Rat} {m s:Nat} (h:s≤m):(qBT P q m (s+1))[m - s]? =some (some (divC (divS P q m s) q (m - s))):=by
 simp only[qBT,List.getElem?_map];rw[List.getElem?_range (by omega),Option.map_some,if_pos (by omega),show m - (m - s)=s by omega]
theorem qMf {P q:List Rat} {m:Nat} (h:¬P.length<q.length) (hm:P.length - q.length=m):qBT P q m (m+1)=(qBS P q).map some:=by
 unfold qBT qBS;rw[if_neg h,hm,List.map_map];refine List.map_congr_left fun j hj=>?_;rw[if_pos (by omega)]
 rfl
structure DivSt (w:World) (base bq gp np cp gq mo:Nat) (vQ:Value) (Q P:List Rat) (os:List (Option Rat)) (W:World):Prop where
 below:Below base w W
 kp:Kp .u32 w W
 oth:∀b,b<w.heap.size→b≠gp→W.heap[b]? =w.heap[b]?
 p:RowE (ratK .u32) 70 base W (.slice (some ⟨gp,0,none⟩) np cp) P
 o:RowE (ratO .u32) 70 w.heap.size W (.slice (some ⟨gq,0,none⟩) mo mo) os
 q:RowE (ratK .u32) 70 bq W vQ Q
section
variable {w:World} {base bq gp np cp gq mo:Nat} {vQ:Value} {Q P:List Rat} {os:List (Option Rat)} {W V:World}
theorem DivSt.le (h:DivSt w base bq gp np cp gq mo vQ Q P os W) (hw:base≤w.heap.size) (hb:Le W V):DivSt w base bq gp np cp gq mo vQ Q P os V:=
 ⟨h.below.trans (hb.mono (Nat.le_trans hw h.below.size)),h.kp.trans (Kp.of_le hb),fun b h1 h2=>(hb.block b (Nat.lt_of_lt_of_le h1 h.below.size)).trans (h.oth b h1 h2),h.p.le hb,h.o.le hb,h.q.le hb⟩
theorem DivSt.storeP (h:DivSt w base bq gp np cp gq mo vQ Q P os W) (hpq:gp≠gq) (hQ:∀b,vQ.ownBlock=some b→b≠gp) {j:Nat} (hj:j<P.length)
  {s:Bool} {A B:Option Addr} {a c b d:Nat} {r:Rat} (hr:RatL (fun _=>True) .u32 W (.agg #[.bool s,.slice A a c,.slice B b d]) r):
  DivSt w base bq gp np cp gq mo vQ Q (P.set j r) os (((W.setCell ⟨gp,j*3,none⟩ (.bool s)).setCell ⟨gp,j*3+1,none⟩ (.slice A a c)).setCell ⟨gp,j*3+2,none⟩ (.slice B b d)):=by
 have hgp:=(h.p.nib (g:=gp) rfl).1;have hst:=RowE.store h.p (i:=j) hj (cs:=[.bool s,.slice A a c,.slice B b d]) (y:=r) ⟨_,_,_,_,_,_,_,rfl,hr⟩;have ho:∀q,q≠gp→(W.setCells gp (j*3) [.bool s,.slice A a c,.slice B b d]).heap[q]? =W.heap[q]? :=fun q hq=>qCl hq _ _ _;exact⟨qCm hgp [.bool s,.slice A a c,.slice B b d] (j*3) _ _ h.below,h.kp.trans hst.2,fun b h1 h2=>(ho b h2).trans (h.oth b h1 h2),hst.1,h.o.keep hst.2 (fun q hq=>ho q (by have e:gq=q:=(by simpa[Value.ownBlock]using hq);subst e;exact Ne.symm hpq)),h.q.keep hst.2 fun q hq=>ho q (hQ q hq)⟩
theorem DivSt.storeO (h:DivSt w base bq gp np cp gq mo vQ Q P os W) (hw:base≤w.heap.size) (hpq:gp≠gq) (hQ:∀b,vQ.ownBlock=some b→b≠gq) {j:Nat} (hj:j<os.length)
  {s:Bool} {A B:Option Addr} {a c b d:Nat} {r:Rat} (hr:RatL (fun _=>True) .u32 W (.agg #[.bool s,.slice A a c,.slice B b d]) r):
  DivSt w base bq gp np cp gq mo vQ Q P (os.set j (some r)) (((W.setCell ⟨gq,j*3,none⟩ (.bool s)).setCell ⟨gq,j*3+1,none⟩ (.slice A a c)).setCell ⟨gq,j*3+2,none⟩ (.slice B b d)):=by
 have hgq:=(h.o.nib (g:=gq) rfl).1;have hst:=RowE.store h.o (i:=j) hj (cs:=[.bool s,.slice A a c,.slice B b d]) (y:=some r) ⟨_,_,_,_,_,_,_,rfl,hr⟩;have ho:∀q,q≠gq→(W.setCells gq (j*3) [.bool s,.slice A a c,.slice B b d]).heap[q]? =W.heap[q]? :=fun q hq=>qCl hq _ _ _;exact⟨qCm (Nat.le_trans hw hgq) [.bool s,.slice A a c,.slice B b d] (j*3) _ _ h.below,h.kp.trans hst.2,fun b h1 h2=>(ho b (by omega)).trans (h.oth b h1 h2),h.p.keep hst.2 (fun q hq=>ho q (by have e:gp=q:=(by simpa[Value.ownBlock]using hq);subst e;exact hpq)),hst.1,h.q.keep hst.2 fun q hq=>ho q (hQ q hq)⟩
end
def qII (w:World) (base:Nat) (vP:Value) (P Q:List Rat) (e:Ending) (w':World):Prop:=
 ∃va vr,e= .returned (.tuple #[va,vr])∧Below base w w'∧Kp .u32 w w'∧(∀b,b<w.heap.size→vP.ownBlock≠some b→w'.heap[b]? =w.heap[b]?)∧RowE (ratK .u32) 70 w.heap.size w' va (qBS P Q)∧RowE (ratK .u32) 70 base w' vr (qBH P Q)∧(∀b,vr.ownBlock=some b→vP.ownBlock=some b)
theorem qL2 (base bq:Nat) (vP vQ:Value) (P Q:List Rat) (w:World) (hP:RowE (ratK .u32) 70 base w vP P) (hQ:RowE (ratK .u32) 70 bq w vQ Q) (hne:∀b,vP.ownBlock=some b→vQ.ownBlock≠some b) (hbase:base≤w.heap.size)
  (hQ0:0<Q.length) (hQt:Q.getD (Q.length - 1) 0≠0) (hlP:P.length≤1000) (hlQ:Q.length≤1000) (hsQ:∀r∈Q,Rsz r 500000) (hsP:∀s,s≤P.length - Q.length+1→∀r∈divS P Q (P.length - Q.length) s,Rsz r 500000):
  Calls Tryz.prog 74 #[vP,vQ] w (qII w base vP P Q):=by
 obtain⟨AP,cP,rfl⟩:=hP.slice;obtain⟨AQ,cQ,rfl⟩:=hQ.slice;obtain⟨np,hnp⟩:∃n,P.length=n:=⟨_,rfl⟩;obtain⟨nq,hnq⟩:∃n,Q.length=n:=⟨_,rfl⟩;rw[hnp]at hP hlP hne ⊢;rw[hnq]at hQ hQ0 hQt hlQ hne ⊢;have hinfo:=qNl
 by_cases hlt:np<nq
 ·have e1:qBS P Q=[]:=by unfold qBS;rw[hnp,hnq,if_pos hlt]
  have e2:qBH P Q=P:=by unfold qBH;rw[hnp,hnq,if_pos hlt]
  have hfin:qII w base (.slice AP np cP) P Q (.returned (.tuple #[.slice none 0 0,.slice AP np cP])) w:=⟨_,_,rfl,Below.refl _ _,Kp.refl w,fun _ _ _=>rfl,by rw[e1];exact RowE.nil _ _ _ _,by rw[e2];exact hP,fun _ h=>h⟩;have j1:(np:Int)<(nq:Int):=by omega
  have⟨hP',hQ',hfin',hne',hQt',hsQ',hsP',hinfo'⟩:=hyd8 hP hQ hfin hne hQt hsQ hsP hinfo;have⟨hnp',hnq',e1',e2'⟩:=hyd4 hnp hnq e1 e2;clear e2 e1 hnq hnp hinfo hsP hsQ hQt hne hfin hQ hP;go_enter Tryz.func74,Tryz.ntmps74;go_wp2;exact bodyPost_ret (v:= .tuple #[.slice none 0 0,.slice AP np cP]) (by simp[results,Tryz.results74,go_sem]) rfl hfin'.out
 ·obtain⟨m,hm⟩:∃m,np - nq=m:=⟨_,rfl⟩;rw[hnp,hnq,hm]at hsP
  obtain⟨gp,hAP⟩:∃g,AP=some ⟨g,0,none⟩:=by
   obtain⟨g,c,e1,-⟩:=hP.at (j:=0) (by omega);injection e1 with e1;exact⟨g,e1⟩
  subst hAP;have hgp:=hP.nib (g:=gp) rfl;have hgpl:=hgp.2.1;have hmk:∀s,s≤m→(divS P Q m s).length =np:=fun s _=>(qCv P Q m s).trans hnp;have hQn:∀b,(Value.slice AQ nq cQ).ownBlock =some b→b≠gp:=fun b hb e=>hne gp rfl (by rw[←e];exact hb);have hQs:∀b,(Value.slice AQ nq cQ).ownBlock =some b→b<w.heap.size:=fun b hb=>(hQ.nib hb).2.1;have j1:¬(np:Int)<(nq:Int):=by omega
  have j2:(np:Int) - (nq:Int)=(m:Int):=by omega
  obtain⟨mo,hmo⟩:∃k,m+1=k:=⟨_,rfl⟩;have j3:(m:Int)+1=(mo:Int):=by omega
  have hm9:mo≤2000:=by omega
  have hm8:0<mo:=by omega
  have⟨hP',hQ',hne',hQt',hsQ',hsP',hinfo',hnp'⟩:=hyd8 hP hQ hne hQt hsQ hsP hinfo hnp;have⟨hnq',hmk',hQn',hQs',hgp',hmo'⟩:=hyd6 hnq hmk hQn hQs hgp hmo;clear hmo hgp hQs hQn hmk hnq hnp hinfo hsP hsQ hQt hne hQ hP;go_enter Tryz.func74,Tryz.ntmps74;go_wp2_with (at_make;go_must (refine qJ7 (k:= .u32) _ rfl _ _ 107 rfl w.heap.size 70 56 Tryz.underlying107 hinfo'.out (by decide) mo (by go_num) (by go_num) (by omega) (Nat.le_refl _) ?_);intro W0 o1 o2 o3;have o1':=Lib.hid o1;have o2':=Lib.hid o2;clear o1 o2);obtain⟨gq,hgq⟩:∃g,w.heap.size=g:=⟨_,rfl⟩;have hst0:DivSt w base bq gp np cP gq mo (.slice AQ nq cQ) Q (divS P Q m 0) (qBT P Q m 0) W0:=⟨o2'.out.mono hbase,Kp.of_le o2'.out,fun b h1 _=>o2'.out.block b h1,hP'.out.le o2'.out,by rw[qL1,←hgq,hmo'.out];exact o1'.out,hQ'.out.le o2'.out⟩;have hpq:gp≠gq:=by omega
  have hQq:∀b,(Value.slice AQ nq cQ).ownBlock =some b→b≠gq:=fun b hb=>by have:=hQs'.out b hb;omega
  rw[hgq];have⟨hst0',hgq',hQq'⟩:=hyd3 hst0 hgq hQq;clear hQq hgq hst0;clear o1' o2' o3;rename World=>wz
  go_loopw [7] (fun i wr=>∃s:Nat,i= .int .i64 ((m:Int) - (s:Int))∧s≤m+1∧Hid (DivSt w base bq gp np cP gq mo (.slice AQ nq cQ) Q (divS P Q m s) (qBT P Q m s) wr)) (fun i _=>(intOf i+1).toNat)
  case atStart=>exact⟨0,by simp,Nat.zero_le _,hst0'⟩
  case round=>
   obtain⟨s,rfl,hs,hst⟩:=hrel
   by_cases hlt2:s≤m
   ·obtain⟨i,hi⟩:∃i,m - s=i:=⟨_,rfl⟩;have e0:(m:Int) - (s:Int)=(i:Int):=by omega
    rw[e0];have hlen:(divS P Q m s).length =np:=hmk'.out s hlt2;obtain⟨Ps,hPs⟩:∃l,divS P Q m s=l:=⟨_,rfl⟩
    have hnext:divS P Q m (s+1)=subK Ps Q i (divC Ps Q i) nq:=by
     show subK (divS P Q m s) Q (m - s) (divC (divS P Q m s) Q (m - s)) Q.length=_
     rw[hPs,hi,hnq'.out]
    have hqset:=qMe (P:=P) (q:=Q) hlt2;have hqat:=qNn (P:=P) (q:=Q) hlt2;have hszs:=hsP'.out s hs;have hszn:=hsP'.out (s+1) (by omega);simp only[hPs,hi]at hqset hqat hszs hlen;rw[hnext]at hszn;have hstP:=hst.out;rw[hPs]at hstP;obtain⟨c,hc0⟩:∃c,divC Ps Q i=c:=⟨_,rfl⟩;rw[hc0]at hnext hqset hqat hszn;obtain⟨t,ht⟩:∃t,i+nq - 1=t:=⟨_,rfl⟩;have htl:t<Ps.length:=by rw[hlen];omega
    obtain⟨g1,c1',e1,-,hg1,-,-,cs,hrd,hcp⟩:=hstP.p.at htl;rw[hlen]at e1;injection e1 with e1 e2 e3;injection e1 with e1;injection e1 with e1;subst e1 e3;clear e2;have htd:Ps.getD t 0=Ps[t]:=by rw[List.getD_eq_getElem?_getD,List.getElem?_eq_getElem htl];rfl
    have hsa:Rsz Ps[t] 500000:=hszs _ (List.getElem_mem htl);generalize Ps[t]=a at hrd htd hsa;obtain⟨s1,A1,n1,d1,B1,m1,f1,rfl,hav⟩:=hrd;have hkQ:nq - 1<Q.length:=by rw[hnq'.out];omega
    obtain⟨g2,c2',e1,-,hg2,-,-,cs,hrd,hcq⟩:=hstP.q.at hkQ;rw[hnq'.out]at e1;injection e1 with e1 e2 e3;subst e1 e3;clear e2;have hqd:Q.getD (nq - 1) 0=Q[nq - 1]:=by rw[List.getD_eq_getElem?_getD,List.getElem?_eq_getElem hkQ];rfl
    have hsb:Rsz Q[nq - 1] 500000:=hsQ'.out _ (List.getElem_mem hkQ);have hb0:Q[nq - 1]≠0:=by rw[←hqd];exact hQt'.out
    generalize Q[nq - 1]=b at hrd hqd hsb hb0;obtain⟨s2,A2,n2,d2,B2,m2,f2,rfl,hbv⟩:=hrd;have hcab:c=a / b:=by rw[←hc0,←htd,←hqd];unfold divC;rw[hnq'.out,ht]
    have hszc:Rsz c 1000000:=by rw[hcab];exact qPS hb0 hsa hsb
    obtain⟨l9,hl9⟩:∃l,nq - 1=l:=⟨_,rfl⟩;rw[hl9]at hcq;have x0:wr.cell? ⟨gp,t*3,none⟩=some (.bool s1):=hcp 0 _ rfl;have x1:wr.cell? ⟨gp,t*3+1,none⟩=some (.slice A1 n1 d1):=hcp 1 _ rfl;have x2:wr.cell? ⟨gp,t*3+2,none⟩=some (.slice B1 m1 f1):=hcp 2 _ rfl;have z0:wr.cell? ⟨g2,l9*3,none⟩=some (.bool s2):=hcq 0 _ rfl;have z1:wr.cell? ⟨g2,l9*3+1,none⟩=some (.slice A2 n2 d2):=hcq 1 _ rfl;have z2:wr.cell? ⟨g2,l9*3+2,none⟩=some (.slice B2 m2 f2):=hcq 2 _ rfl;have hil:i<(qBT P Q m s).length :=by rw[qFl];omega
    obtain⟨u0,u1,u2,hu0,hu1,hu2⟩:∃u0 u1 u2,wr.cell? ⟨gq,i*3,none⟩=some u0∧wr.cell? ⟨gq,i*3+1,none⟩=some u1∧wr.cell? ⟨gq,i*3+2,none⟩=some u2:=by
     obtain⟨g',c',e1,-,-,-,-,cs,hrd,hc⟩:=hstP.o.at hil;injection e1 with e1 e2 e3;injection e1 with e1;injection e1 with e1;subst e1;have hl:=(ratO .u32).len hrd
     match cs,hl with
     | [a0,a1,a2],_=>exact⟨a0,a1,a2,hc 0 _ rfl,hc 1 _ rfl,hc 2 _ rfl⟩
    have hgql:=(hstP.o.nib (g:=gq) rfl).2.1;obtain⟨t1,ht1⟩:∃k,i+nq=k:=⟨_,rfl⟩;have j4:(i:Int)+(nq:Int)=(t1:Int):=by omega
    have j5:(t1:Int) - 1=(t:Int):=by omega
    have jt1:t1≤2000:=by omega
    have j6:(nq:Int) - 1=(l9:Int):=by omega
    have j7:(t:Int)<(np:Int):=by omega
    have j8:(l9:Int)<(nq:Int):=by omega
    have j9:(i:Int)<(mo:Int):=by have:=hmo'.out;omega
    have j10:(0:Int)≤(i:Int):=by omega
    have j11:(0:Int)≤(t:Int):=by omega
    have j12:(0:Int)≤(l9:Int):=by omega
    have hi9:i+nq≤np:=by omega
    clear hst;have⟨hlen',hPs',hnext',hqset',hqat',hszs',hszn',hstP'⟩:=hyd8 hlen hPs hnext hqset hqat hszs hszn hstP;have⟨hc0',ht',htl',hav',hbv',htd',hqd',hsa'⟩:=hyd8 hc0 ht htl hav hbv htd hqd hsa;have⟨hsb',hb0',hcab',hszc',hl9',x0',x1',x2'⟩:=hyd8 hsb hb0 hcab hszc hl9 x0 x1 x2;have⟨z0',z1',z2',hil',hu0',hu1',hu2',hcp'⟩:=hyd8 z0 z1 z2 hil hu0 hu1 hu2 hcp;have⟨hcq',hi',e0',j4',j5',j6',ht1'⟩:=hyd7 hcq hi e0 j4 j5 j6 ht1;clear ht1 j6 j5 j4 e0 hi hcq hcp hu2 hu1 hu0 hil z2 z1 z0 x2 x1 x0 hl9 hszc hcab hb0 hsb hsa hqd htd hbv hav htl ht hc0 hstP hszn hszs hqat hqset hnext hPs hlen;go_wp2_with (fail);refine qAM (R:=leRel) 16 [some 31,some 32,some 33,some 34,some 35,some 36,some 37,some 38,some 39,some 40,some 41,some 42,some 43,some 44,some 45,some 46,none] [[],[],[],[],[],[3,4],[5],[2,6],[7],[],[],[10],[9,11],[12],[8,13],[0,1],[14,15]]
     [.eq (.slice (some ⟨gq,0,none⟩) mo mo),.eq (.int .i64 (i:Int)),.eq (.slice (some ⟨gp,0,none⟩) np cP),.eq (.int .i64 (i:Int)),.eq (.int .i64 (nq:Int)),.eq (.int .i64 (t1:Int)),.eq (.int .i64 (t:Int)),.eq (.pointer (some ⟨gp,t*3,none⟩)),.eq (.agg #[.bool s1,.slice A1 n1 d1,.slice B1 m1 f1]),.eq (.slice (some ⟨g2,0,none⟩) nq cQ),.eq (.int .i64 (nq:Int)),.eq (.int .i64 (l9:Int)),.eq (.pointer (some ⟨g2,l9*3,none⟩)),.eq (.agg #[.bool s2,.slice A2 n2 d2,.slice B2 m2 f2]),MPred.ratU (a / b),.eq (.pointer (some ⟨gq,i*3,none⟩))] (fun _ _=>False) (by kernel_rfl) (by kernel_rfl) (by kernel_rfl) (by kernel_rfl) (by kernel_rfl) ?_ (fun _ _ _ _ h=>h.elim) ?_
    ·simp only[List.take_succ_cons,List.take_zero];refine sMc rfl ?_ (sMc rfl ?_ (sMc rfl ?_ (sMc rfl ?_ (sMc rfl ?_ (sMc rfl ?_ (sMc rfl ?_ (sMc rfl ?_ (sMc rfl ?_ (sMc rfl ?_ (sMc rfl ?_ (sMc rfl ?_ (sMc rfl ?_ (sMc rfl ?_ (sMc rfl ?_ (sMc rfl ?_ (qAR))))))))))))))))
     ·intro xv W hR hf Q hK hP;simp only[fA]at hK ⊢;go_wp2;exact hK _ _ lrR rfl
     ·intro xv W hR hf Q hK hP;simp only[fA]at hK ⊢;go_wp2;exact hK _ _ lrR rfl
     ·intro xv W hR hf Q hK hP;simp only[fA]at hK ⊢;go_wp2;exact hK _ _ lrR rfl
     ·intro xv W hR hf Q hK hP;simp only[fA]at hK ⊢;go_wp2;exact hK _ _ lrR rfl
     ·intro xv W hR hf Q hK hP;simp only[fA]at hK ⊢;go_wp2;exact hK _ _ lrR rfl
     ·intro xv W hR hf Q hK hP;obtain⟨e0,e1,-⟩:=hf;change _=_ at e0 e1;have jj:=j4'.out;simp only[fA,e0,e1]at hK ⊢;go_wp2;exact hK _ _ lrR (by show Value.int _ _=Value.int _ _;congr 1)
     ·intro xv W hR hf Q hK hP;obtain⟨e0,-⟩:=hf;change _=_ at e0;have jj:=j5'.out;simp only[fA,e0]at hK ⊢;go_wp2;exact hK _ _ lrR (by show Value.int _ _=Value.int _ _;congr 1)
     ·intro xv W hR hf Q hK hP;obtain⟨e0,e1,-⟩:=hf;change _=_ at e0 e1;simp only[fA,e0,e1]at hK ⊢;go_wp2;exact hK _ _ lrR rfl
     ·intro xv W hR hf Q hK hP;obtain⟨e0,-⟩:=hf;change _=_ at e0;have t0:=(Below.cell hR (p:=⟨gp,t*3,none⟩) hg1).trans x0'.out;have t1:=(Below.cell hR (p:=⟨gp,t*3+1,none⟩) hg1).trans x1'.out;have t2:=(Below.cell hR (p:=⟨gp,t*3+2,none⟩) hg1).trans x2'.out;simp only[fA,e0]at hK ⊢;go_wp2;exact hK _ _ lrR rfl
     ·intro xv W hR hf Q hK hP;simp only[fA]at hK ⊢;go_wp2;exact hK _ _ lrR rfl
     ·intro xv W hR hf Q hK hP;simp only[fA]at hK ⊢;go_wp2;exact hK _ _ lrR rfl
     ·intro xv W hR hf Q hK hP;obtain⟨e0,-⟩:=hf;change _=_ at e0;have jj:=j6'.out;simp only[fA,e0]at hK ⊢;go_wp2;exact hK _ _ lrR (by show Value.int _ _=Value.int _ _;congr 1)
     ·intro xv W hR hf Q hK hP;obtain⟨e0,e1,-⟩:=hf;change _=_ at e0 e1;simp only[fA,e0,e1]at hK ⊢;go_wp2;exact hK _ _ lrR rfl
     ·intro xv W hR hf Q hK hP;obtain⟨e0,-⟩:=hf;change _=_ at e0;have t0:=(Below.cell hR (p:=⟨g2,l9*3,none⟩) hg2).trans z0'.out;have t1:=(Below.cell hR (p:=⟨g2,l9*3+1,none⟩) hg2).trans z1'.out;have t2:=(Below.cell hR (p:=⟨g2,l9*3+2,none⟩) hg2).trans z2'.out;simp only[fA,e0]at hK ⊢;go_wp2;exact hK _ _ lrR rfl
     ·intro xv W hR hf Q hK hP;obtain⟨e0,e1,-⟩:=hf;change _=_ at e0 e1;simp only[fA,e0,e1]at hK ⊢;have kc:=qEW (fun _=>True) a b _ _ W (Up.any _) (hav'.out.le hR) (hbv'.out.le hR) (qDC hsa'.out (by decide)) (qDC hsb'.out (by decide)) hb0'.out;have kc':=hyd1 kc;clear kc;go_wp2_with (fail);go_at_call 62;refine kc'.out.mono ?_;rintro e w' ⟨v',rfl,y1,y2⟩;obtain⟨vs,vA,vn,vc,vB,vm,vd,rfl⟩:=y2.frm;have⟨y1',y2'⟩:=hyd2 y1 y2;clear y2 y1;go_wp2;exact hK _ _ y1'.out y2'.out
     ·intro xv W hR hf Q hK hP;obtain⟨e0,e1,-⟩:=hf;change _=_ at e0 e1;simp only[fA,e0,e1]at hK ⊢;go_wp2;exact hK _ _ lrR rfl
    intro xv W hR hf Q' hQ1 _;have f14:RatL (fun _=>True) .u32 W (xv 14) (a / b):=hf 14 (by decide);obtain⟨s3,A3,n3,c3,B3,m3,d3,qv⟩:=f14.frm;have e15:=hf 15 (by decide);change _=_ at e15;simp only[List.drop_succ_cons,List.drop_zero];rw[show List.range 16=[0,1,2,3,4,5,6,7,8,9,10,11,12,13,14,15]from rfl];simp only[fA,qv,e15];clear hf;rw[qv]at f14;clear qv e15;have t0:=(Below.cell hR (p:=⟨gq,i*3,none⟩) hgql).trans hu0'.out;have t1:=(Below.cell hR (p:=⟨gq,i*3+1,none⟩) hgql).trans hu1'.out;have t2:=(Below.cell hR (p:=⟨gq,i*3+2,none⟩) hgql).trans hu2'.out;have y0:=(hstP'.out.o.le hR).frz (i*3);have y1:=(hstP'.out.o.le hR).frz (i*3+1);have y2:=(hstP'.out.o.le hR).frz (i*3+2);have⟨f14',hR'⟩:=hyd2 f14 hR;clear hR f14;go_wp2;refine hQ1 _ _ ?_;clear hQ1 t0 t1 t2 y0 y1 y2;have f14:=f14'.out;have hR:=hR'.out;clear f14' hR';have hav3:=RatL.kp (W:=((W.setCell ⟨gq,i*3,none⟩ (.bool s3)).setCell ⟨gq,i*3+1,none⟩ (.slice A3 n3 c3)).setCell ⟨gq,i*3+2,none⟩ (.slice B3 m3 d3)) f14 (qEl (k:= .u32) [.bool s3,.slice A3 n3 c3,.slice B3 m3 d3] W (i*3) ((hstP'.out.o.le hR).nib (g:=gq) rfl).2.2 (fun u hu=>by simp only[List.mem_cons,List.not_mem_nil,or_false]at hu;rcases hu with rfl|rfl|rfl<;>first |exact qAV _|exact qAK _ _ _)).1;have hs1:=(hstP'.out.le hbase hR).storeO hbase hpq hQq'.out hil'.out f14;rw[←hcab'.out,hqset'.out]at hs1;obtain⟨V,hV⟩:∃V,((W.setCell ⟨gq,i*3,none⟩ (.bool s3)).setCell ⟨gq,i*3+1,none⟩ (.slice A3 n3 c3)).setCell ⟨gq,i*3+2,none⟩ (.slice B3 m3 d3)=V:=⟨_,rfl⟩
    rw[hV]at hs1 hav3 ⊢;have hs2:DivSt w base bq gp np cP gq mo (.slice (some ⟨g2,0,none⟩) nq cQ) Q (subK Ps Q i c 0) (qBT P Q m (s+1)) V:=by rw[qMd];exact hs1
    clear hV f14 hav3 hs1;have⟨hR',hs2'⟩:=hyd2 hR hs2;clear hs2 hR;clear hstP';go_wp2_with (fail);rename World=>wy
    go_loopw [49] (fun i' wr=>∃q:Nat,i'= .int .i64 (q:Int)∧q≤nq∧Hid (DivSt w base bq gp np cP gq mo (.slice (some ⟨g2,0,none⟩) nq cQ) Q (subK Ps Q i c q) (qBT P Q m (s+1)) wr)) (fun i' _=>nq - (intOf i').toNat)
    case atStart=>exact⟨0,rfl,Nat.zero_le _,hs2'⟩
    case round=>
     obtain⟨q,rfl,hq9,hst⟩:=hrel
     by_cases hqlt:q<nq
     ·have hqY:q<Q.length:=by rw[hnq'.out];exact hqlt
      obtain⟨gy,cy,e1,-,hgy,-,-,cs,hrd,hc⟩:=hst.out.q.at hqY;rw[hnq'.out]at e1;injection e1 with e1 e2 e3;injection e1 with e1;injection e1 with e1;subst e1 e3;clear e2;have hyk:Q.getD q 0=Q[q]:=by rw[List.getD_eq_getElem?_getD,List.getElem?_eq_getElem hqY];rfl
      have hszq:Rsz Q[q] 500000:=hsQ'.out _ (List.getElem_mem hqY);generalize Q[q]=y at hrd hyk hszq;obtain⟨s5,A5,n5,c5,B5,m5,d5,rfl,hyv⟩:=hrd;have q0:wr.cell? ⟨g2,q*3,none⟩=some (.bool s5):=hc 0 _ rfl;have q1:wr.cell? ⟨g2,q*3+1,none⟩=some (.slice A5 n5 c5):=hc 1 _ rfl;have q2:wr.cell? ⟨g2,q*3+2,none⟩=some (.slice B5 m5 d5):=hc 2 _ rfl;obtain⟨W2,hW2,hb2,k2⟩:=enew wr (.cells #[.bool s5,.slice A5 n5 c5,.slice B5 m5 d5] 70);have hst2:=hst.out.le hbase hb2;have hyv2:=hyv.le hb2;have hpl:i+q<(subK Ps Q i c q).length :=by rw[qDn,hlen'.out];omega
      obtain⟨gl,cl,e1,-,hgl2,-,-,cs,hrd,hcl⟩:=hst2.p.at hpl;rw[qDn,hlen'.out]at e1;injection e1 with e1 e2 e3;injection e1 with e1;injection e1 with e1;subst e1;clear e2 e3;have hat:=qOj hpl;have hset:=qNm (P:=Ps) (q:=Q) (i:=i) (c:=c) (k:=q) (by rw[hlen'.out];omega);have hszl:Rsz (Ps.getD (i+q) 0) 500000:=qOi hszs'.out (by decide) (i+q);rw[hat]at hrd;obtain⟨x9,hx9⟩:∃l,Ps.getD (i+q) 0=l:=⟨_,rfl⟩;rw[hx9]at hrd hszl hset;rw[hyk]at hset;obtain⟨s4,A4,n4,c4,B4,m4,d4,rfl,hlv⟩:=hrd;have hol:i<(qBT P Q m (s+1)).length :=by rw[qFl];omega
      obtain⟨go,co,e1,-,hgo,-,-,cs,hrd,hco⟩:=hst2.o.at hol;injection e1 with e1 e2 e3;injection e1 with e1;injection e1 with e1;subst e1;clear e2 e3
      have hrd:(ratK .u32).rd W2 cs c:=by
       have h9:=hrd;have h8:=hqat'.out;rw[List.getElem?_eq_getElem hol]at h8;injection h8 with h8;rw[h8]at h9;exact h9
      obtain⟨s6,A6,n6,c6,B6,m6,d6,rfl,hcv⟩:=hrd;obtain⟨iq,hiq⟩:∃m,i+q=m:=⟨_,rfl⟩;rw[hiq]at hset hcl hpl;have x0:W2.cell? ⟨gp,iq*3,none⟩=some (.bool s4):=hcl 0 _ rfl;have x1:W2.cell? ⟨gp,iq*3+1,none⟩=some (.slice A4 n4 c4):=hcl 1 _ rfl;have x2:W2.cell? ⟨gp,iq*3+2,none⟩=some (.slice B4 m4 d4):=hcl 2 _ rfl;have r0:W2.cell? ⟨gq,i*3,none⟩=some (.bool s6):=hco 0 _ rfl;have r1:W2.cell? ⟨gq,i*3+1,none⟩=some (.slice A6 n6 c6):=hco 1 _ rfl;have r2:W2.cell? ⟨gq,i*3+2,none⟩=some (.slice B6 m6 d6):=hco 2 _ rfl;have z0:=cell_of_row W2 wr.heap.size 0 _ _ _ k2;have z1:=cell_of_row W2 wr.heap.size 1 _ _ _ k2;have z2:=cell_of_row W2 wr.heap.size 2 _ _ _ k2;have hz2:=gsl k2;have hcy:Rsz (c*y) 2000000:=qDC (qPR hszc'.out hszq) (by decide);have hszl2:Rsz x9 2000000:=qDC hszl (by decide);have hszc5:Rsz c 5000000:=qDC hszc'.out (by decide);have hszy5:Rsz y 5000000:=qDC hszq (by decide);have j13:(q:Int)<(nq:Int):=by omega
      have j14:(0:Int)≤(q:Int):=by omega
      have j15:(i:Int)+(q:Int)=(iq:Int):=by omega
      have j16:(iq:Int)<(np:Int):=by omega
      have j17:(0:Int)≤(iq:Int):=by omega
      have hb1000:iq<1000:=by omega
      clear hiq hst;have⟨hyk',hszq',hyv',hb2',k2',hst2',hyv2',hat'⟩:=hyd8 hyk hszq hyv hb2 k2 hst2 hyv2 hat;have⟨hset',hszl',hx9',hlv',hcv',hcy',hszl2',hszc5'⟩:=hyd8 hset hszl hx9 hlv hcv hcy hszl2 hszc5;have⟨hszy5',x0',x1',x2',r0',r1',r2',z0'⟩:=hyd8 hszy5 x0 x1 x2 r0 r1 r2 z0;have⟨z1',z2',hc',hcl',hco',hpl',j15'⟩:=hyd7 z1 z2 hc hcl hco hpl j15;clear j15 hpl hco hcl hc z2 z1 z0 r2 r1 r0 x2 x1 x0 hszy5 hszc5 hszl2 hcy hcv hlv hx9 hszl hset hat hyv2 hst2 k2 hb2 hyv hszq hyk;go_wp2_with (fail);clear hW2 q0 q1 q2;refine qAM (R:=leRel) 18 [some 54,some 55,some 56,some 57,some 58,some 59,some 60,some 61,some 62,some 63,some 64,some 65,some 66,some 67,some 68,some 69,some 70,some 71,none] [[],[],[],[1,2],[],[],[],[5,6],[4,7],[8],[],[],[10,11],[12],[],[13,14],[9,15],[0,3],[16,17]]
       [.eq (.slice (some ⟨gp,0,none⟩) np cP),.eq (.int .i64 (i:Int)),.eq (.int .i64 (q:Int)),.eq (.int .i64 (iq:Int)),.eq (.slice (some ⟨gp,0,none⟩) np cP),.eq (.int .i64 (i:Int)),.eq (.int .i64 (q:Int)),.eq (.int .i64 (iq:Int)),.eq (.pointer (some ⟨gp,iq*3,none⟩)),.eq (.agg #[.bool s4,.slice A4 n4 c4,.slice B4 m4 d4]),.eq (.slice (some ⟨gq,0,none⟩) mo mo),.eq (.int .i64 (i:Int)),.eq (.pointer (some ⟨gq,i*3,none⟩)),.eq (.agg #[.bool s6,.slice A6 n6 c6,.slice B6 m6 d6]),.eq (.agg #[.bool s5,.slice A5 n5 c5,.slice B5 m5 d5]),MPred.ratU (c*y),MPred.ratU (x9 - c*y),.eq (.pointer (some ⟨gp,iq*3,none⟩))] (fun _ _=>False) (by kernel_rfl) (by kernel_rfl) (by kernel_rfl) (by kernel_rfl) (by kernel_rfl) ?_ (fun _ _ _ _ h=>h.elim) ?_
      ·simp only[List.take_succ_cons,List.take_zero];refine sMc rfl ?_ (sMc rfl ?_ (sMc rfl ?_ (sMc rfl ?_ (sMc rfl ?_ (sMc rfl ?_ (sMc rfl ?_ (sMc rfl ?_ (sMc rfl ?_ (sMc rfl ?_ (sMc rfl ?_ (sMc rfl ?_ (sMc rfl ?_ (sMc rfl ?_ (sMc rfl ?_ (sMc rfl ?_ (sMc rfl ?_ (sMc rfl ?_ (qAR))))))))))))))))))
       ·intro xv W hR hf Q hK hP;simp only[fA]at hK ⊢;go_wp2;exact hK _ _ lrR rfl
       ·intro xv W hR hf Q hK hP;simp only[fA]at hK ⊢;go_wp2;exact hK _ _ lrR rfl
       ·intro xv W hR hf Q hK hP;simp only[fA]at hK ⊢;go_wp2;exact hK _ _ lrR rfl
       ·intro xv W hR hf Q hK hP;obtain⟨e0,e1,-⟩:=hf;change _=_ at e0 e1;have jj:=j15'.out;simp only[fA,e0,e1]at hK ⊢;go_wp2;exact hK _ _ lrR (by show Value.int _ _=Value.int _ _;congr 1)
       ·intro xv W hR hf Q hK hP;simp only[fA]at hK ⊢;go_wp2;exact hK _ _ lrR rfl
       ·intro xv W hR hf Q hK hP;simp only[fA]at hK ⊢;go_wp2;exact hK _ _ lrR rfl
       ·intro xv W hR hf Q hK hP;simp only[fA]at hK ⊢;go_wp2;exact hK _ _ lrR rfl
       ·intro xv W hR hf Q hK hP;obtain⟨e0,e1,-⟩:=hf;change _=_ at e0 e1;have jj:=j15'.out;simp only[fA,e0,e1]at hK ⊢;go_wp2;exact hK _ _ lrR (by show Value.int _ _=Value.int _ _;congr 1)
       ·intro xv W hR hf Q hK hP;obtain⟨e0,e1,-⟩:=hf;change _=_ at e0 e1;simp only[fA,e0,e1]at hK ⊢;go_wp2;exact hK _ _ lrR rfl
       ·intro xv W hR hf Q hK hP;obtain⟨e0,-⟩:=hf;change _=_ at e0;have t0:=(Below.cell hR (p:=⟨gp,iq*3,none⟩) hgl2).trans x0'.out;have t1:=(Below.cell hR (p:=⟨gp,iq*3+1,none⟩) hgl2).trans x1'.out;have t2:=(Below.cell hR (p:=⟨gp,iq*3+2,none⟩) hgl2).trans x2'.out;simp only[fA,e0]at hK ⊢;go_wp2;exact hK _ _ lrR rfl
       ·intro xv W hR hf Q hK hP;simp only[fA]at hK ⊢;go_wp2;exact hK _ _ lrR rfl
       ·intro xv W hR hf Q hK hP;simp only[fA]at hK ⊢;go_wp2;exact hK _ _ lrR rfl
       ·intro xv W hR hf Q hK hP;obtain⟨e0,e1,-⟩:=hf;change _=_ at e0 e1;simp only[fA,e0,e1]at hK ⊢;go_wp2;exact hK _ _ lrR rfl
       ·intro xv W hR hf Q hK hP;obtain⟨e0,-⟩:=hf;change _=_ at e0;have t0:=(Below.cell hR (p:=⟨gq,i*3,none⟩) hgo).trans r0'.out;have t1:=(Below.cell hR (p:=⟨gq,i*3+1,none⟩) hgo).trans r1'.out;have t2:=(Below.cell hR (p:=⟨gq,i*3+2,none⟩) hgo).trans r2'.out;simp only[fA,e0]at hK ⊢;go_wp2;exact hK _ _ lrR rfl
       ·intro xv W hR hf Q hK hP;have t0:=(Below.cell hR (p:=⟨wr.heap.size,0,none⟩) hz2).trans z0'.out;have t1:=(Below.cell hR (p:=⟨wr.heap.size,1,none⟩) hz2).trans z1'.out;have t2:=(Below.cell hR (p:=⟨wr.heap.size,2,none⟩) hz2).trans z2'.out;simp only[fA]at hK ⊢;go_wp2;exact hK _ _ lrR rfl
       ·intro xv W hR hf Q hK hP;obtain⟨e0,e1,-⟩:=hf;change _=_ at e0 e1;simp only[fA,e0,e1]at hK ⊢;have kc:=qCJ (fun _=>True) c y _ _ W (Up.any _) (hcv'.out.le hR) (hyv2'.out.le hR) hszc5'.out hszy5'.out;have kc':=hyd1 kc;clear kc;go_wp2_with (fail);go_at_call 56;refine kc'.out.mono ?_;rintro e w' ⟨v',rfl,y1,y2⟩;obtain⟨vs,vA,vn,vc,vB,vm,vd,rfl⟩:=y2.frm;have⟨y1',y2'⟩:=hyd2 y1 y2;clear y2 y1;go_wp2;exact hK _ _ y1'.out y2'.out
       ·intro xv W hR hf Q hK hP;obtain⟨e0,e1,-⟩:=hf;change _=_ at e0;replace e1:RatL (fun _=>True) .u32 W (xv 15) (c*y):=e1;obtain⟨ws,wA,wn,wc,wB,wm,wd,qw⟩:=e1.frm;rw[qw]at e1;simp only[fA,e0,qw]at hK ⊢;have kc:=qDw (fun _=>True) x9 (c*y) _ _ W (Up.any _) (hlv'.out.le hR) e1 hszl2'.out hcy'.out;have⟨kc',e1'⟩:=hyd2 kc e1;clear e1 kc;go_wp2_with (fail);go_at_call 57;refine kc'.out.mono ?_;rintro e w' ⟨v',rfl,y1,y2⟩;obtain⟨vs,vA,vn,vc,vB,vm,vd,rfl⟩:=y2.frm;have⟨y1',y2'⟩:=hyd2 y1 y2;clear y2 y1;go_wp2;exact hK _ _ y1'.out y2'.out
       ·intro xv W hR hf Q hK hP;obtain⟨e0,e1,-⟩:=hf;change _=_ at e0 e1;simp only[fA,e0,e1]at hK ⊢;go_wp2;exact hK _ _ lrR rfl
      intro xv W hR hf Q' hQ1 _;have f16:RatL (fun _=>True) .u32 W (xv 16) (x9 - c*y):=hf 16 (by decide);obtain⟨s3,A3,n3,c3,B3,m3,d3,qv⟩:=f16.frm;have e17:=hf 17 (by decide);change _=_ at e17;simp only[List.drop_succ_cons,List.drop_zero];rw[show List.range 18=[0,1,2,3,4,5,6,7,8,9,10,11,12,13,14,15,16,17]from rfl];simp only[fA,qv,e17];clear hf;rw[qv]at f16;clear qv e17;have t0:=(Below.cell hR (p:=⟨gp,iq*3,none⟩) hgl2).trans x0'.out;have t1:=(Below.cell hR (p:=⟨gp,iq*3+1,none⟩) hgl2).trans x1'.out;have t2:=(Below.cell hR (p:=⟨gp,iq*3+2,none⟩) hgl2).trans x2'.out;have y0:=(hst2'.out.p.le hR).frz (iq*3);have y1:=(hst2'.out.p.le hR).frz (iq*3+1);have y2:=(hst2'.out.p.le hR).frz (iq*3+2);have⟨f16',hR'⟩:=hyd2 f16 hR;clear hR f16;go_wp2;refine hQ1 _ _ ?_;clear hQ1 t0 t1 t2 y0 y1 y2;have f16:=f16'.out;have hR:=hR'.out;clear f16' hR';have hsv:=(hst2'.out.le hbase hR).storeP hpq hQn'.out hpl'.out f16;rw[hset'.out]at hsv;obtain⟨V9,hV9⟩:∃V,((W.setCell ⟨gp,iq*3,none⟩ (.bool s3)).setCell ⟨gp,iq*3+1,none⟩ (.slice A3 n3 c3)).setCell ⟨gp,iq*3+2,none⟩ (.slice B3 m3 d3)=V:=⟨_,rfl⟩;rw[hV9]at hsv ⊢;clear hV9 f16;have⟨hR',hsv'⟩:=hyd2 hR hsv;clear hsv hR;go_wp2;go_roundw
      case rel=>exact⟨q+1,by go_num,by omega,hsv'⟩
      case measure=>simp[intOf];omega
     ·obtain rfl:q=nq:=by omega
      have hst9:=hst.out;rw[←hnext'.out]at hst9;have e9:(m:Int) - ((s+1:Nat):Int)=(i:Int) - 1:=by have:=hi'.out;omega
      have j13:¬(q:Int)<(q:Int):=by omega
      have⟨hst9',e9'⟩:=hyd2 hst9 e9;clear e9 hst9;go_wp2;go_roundw
      case rel=>exact⟨s+1,by rw[e9'.out],by omega,hst9'⟩
      case measure=>simp[intOf]
   ·obtain rfl:s=m+1:=by omega
    have e0:(m:Int) - ((m+1:Nat):Int)= -1:=by omega
    rw[e0];have hst9:=hst.out;have hcut:=qPP base _ _ wr hst9.p (by rw[qCv,hnp'.out];omega);rw[qCv,hnp'.out]at hcut;have hall:=qMf (P:=P) (q:=Q) (m:=m) (by rw[hnp'.out,hnq'.out];exact hlt) (by rw[hnp'.out,hnq'.out];exact hm);have hrest:qBH P Q=cutz (divS P Q m (m+1)):=by unfold qBH;rw[hnp'.out,hnq'.out,if_neg hlt,hm]
    have⟨hst9',hcut',hall',hrest',e0'⟩:=hyd5 hst9 hcut hall hrest e0;clear e0 hrest hall hcut hst9;clear hst;go_wp2_with (fail);go_at_call 79;refine hcut'.out.mono ?_;rintro e W2 ⟨A9,c9,e1,rfl,hle2,hrow2⟩;injection e1 with e1 e2 e3;subst e1 e3;clear e2;have hst2:=hst9'.out.le hbase hle2;rw[←hrest'.out]at hrow2
    have hfin:qII w base (.slice (some ⟨gp,0,none⟩) np cP) P Q (.returned (.tuple #[.slice (some ⟨gq,0,none⟩) mo mo,.slice (some ⟨gp,0,none⟩) (topN (divS P Q m (m+1)) np) cP])) W2:=
     ⟨_,_,rfl,hst2.below,hst2.kp,fun b h1 h2=>hst2.oth b h1 fun e=>h2 (by rw[e];rfl),hst2.o.allSet hall'.out,hrow2,fun b hb=>hb⟩
    have⟨hle2',hrow2',hst2',hfin'⟩:=hyd4 hle2 hrow2 hst2 hfin;clear hfin hst2 hrow2 hle2;go_wp2;exact bodyPost_ret (v:= .tuple #[.slice (some ⟨gq,0,none⟩) mo mo,.slice (some ⟨gp,0,none⟩) (topN (divS P Q m (m+1)) np) cP]) (by simp[results,Tryz.results74,go_sem]) rfl hfin'.out
end Go.Proofs.YtenjpccpldajoaaGreatDoor
