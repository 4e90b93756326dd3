/- Whole polynomials: plain. (The regions between --@ARM and --@END are printed by gen_poly.py.) -/
import Derived.Test.YtenjpccpldajoaaGreatDoorPk26
namespace Go.Proofs.YtenjpccpldajoaaGreatDoor
set_option maxRecDepth 100000
set_option maxHeartbeats 1000000
open Go.RowKit Go.Shelf
set_option linter.unusedVariables false
set_option linter.unusedSimpArgs false
def denK (l:List Rat):Nat→Nat
 | 0=>1
 | k+1=>denK l k*((l.getD k 0).den / Nat.gcd (denK l k) (l.getD k 0).den)
def denI (l:List Rat):Nat:=denK l l.length
def qB9 (d:Nat) (r:Rat):Int:=r.num*((d / r.den:Nat):Int)
def qAG (l:List Rat):List Int:=qA7 (l.map (qB9 (denI l)))
theorem qEm (a:Nat) (r:Rat):0<Nat.gcd a r.den:=Nat.gcd_pos_of_pos_right _ (qAU r)
theorem qFN (l:List Rat):∀k,0<denK l k
 | 0=>Nat.one_pos
 | k+1=>by
  unfold denK;exact Nat.mul_pos (qFN l k) (Nat.div_pos (Nat.le_of_dvd (qAU _) (Nat.gcd_dvd_right _ _)) (qEm _ _))
theorem qJc (l:List Rat) (k:Nat):(l.getD k 0).den ∣denK l (k+1)∧denK l k∣denK l (k+1):=by
 refine⟨?_,?_⟩
 ·unfold denK;obtain⟨a,ha⟩:=Nat.gcd_dvd_left (denK l k) (l.getD k 0).den;obtain⟨b,hb⟩:=Nat.gcd_dvd_right (denK l k) (l.getD k 0).den;have hp:=qEm (denK l k) (l.getD k 0)
  have hq:(l.getD k 0).den / Nat.gcd (denK l k) (l.getD k 0).den =b:=by
   conv=>lhs;arg 1;rw[hb]
   exact Nat.mul_div_cancel_left _ hp
  rw[hq];refine⟨a,?_⟩
  conv=>lhs;arg 1;rw[ha]
  conv=>rhs;arg 1;rw[hb]
  rw[Nat.mul_assoc,Nat.mul_assoc,Nat.mul_comm a b]
 ·exact⟨_,rfl⟩
theorem qKm (l:List Rat):∀{k j},j<k→(l.getD j 0).den ∣denK l k
 | k+1,j,h=>by
  by_cases e:j=k
  ·subst e;exact(qJc l j).1
  ·exact Nat.dvd_trans (qKm l (by omega)) (qJc l k).2
theorem qGt {l:List Rat} {r:Rat} (h:r∈l):r.den∣denI l:=by
 obtain⟨j,hj,rfl⟩:=List.getElem_of_mem h;have:=qKm l hj;rw[List.getD_eq_getElem?_getD,List.getElem?_eq_getElem hj]at this;exact this
theorem qDz (a b:Nat):(dg (a / b)).length ≤(dg a).length :=qAJ (Nat.div_le_self _ _)
theorem qGL {l:List Rat} {M:Nat} (h:∀r∈l,Rsz r M) (hM:1≤M):∀k,(dg (denK l k)).length ≤1+k*M
 | 0=>by unfold denK;rw[qCV];simp
 | k+1=>by
  have ih:=qGL h hM k;unfold denK;have h1:=qAN (denK l k) ((l.getD k 0).den / Nat.gcd (denK l k) (l.getD k 0).den);have h2:=qDz (l.getD k 0).den (Nat.gcd (denK l k) (l.getD k 0).den)
  have h3:(dg (l.getD k 0).den).length ≤M:=by
   rw[List.getD_eq_getElem?_getD]
   by_cases hk:k<l.length
   ·rw[List.getElem?_eq_getElem hk];exact(h _ (List.getElem_mem hk)).2
   ·rw[List.getElem?_eq_none (by omega)];show(dg 1).length ≤M;rw[qCV];exact hM
  rw[Nat.add_mul];omega
theorem qH9 (d:Nat) (r:Rat):(qB9 d r).natAbs =rnum r*(d / r.den):=by
 unfold qB9 rnum;rw[Int.natAbs_mul,Int.natAbs_natCast]
theorem qL7 {d:Nat} {r:Rat} (hd:r.den∣d) (h0:d≠0):decide (qB9 d r<0)=rneg r:=by
 have hq:0<d / r.den:=Nat.div_pos (Nat.le_of_dvd (by omega) hd) (qAU r);unfold qB9 rneg;rw[decide_eq_decide];have hq2:(0:Int)<((d / r.den:Nat):Int):=by omega
 constructor
 ·intro h;exact Int.not_le.1 fun h0=>absurd h (Int.not_lt.2 (Int.mul_nonneg h0 (by omega)))
 ·intro h;exact Int.mul_neg_of_neg_of_pos h hq2
theorem qFn {d:Nat} {r:Rat} {M N:Nat} (hr:Rsz r M) (hd:(dg d).length ≤N):Isz (qB9 d r) (M+N):=by
 unfold Isz;rw[qH9];have h1:=qAN (rnum r) (d / r.den);have h2:=qDz d r.den;have h3:=hr.1;omega
def MPred.nn (a b:Nat):MPred:=⟨fun v w=>∃v1 v2,v= .tuple #[v1,v2]∧NumL (fun _=>True) .u32 w v1 a∧NumL (fun _=>True) .u32 w v2 b,fun _ _ _ hb ⟨v1,v2,e,h1,h2⟩=>⟨v1,v2,e,h1.le hb,h2.le hb⟩⟩
theorem qMn (r:Rat) (d Bd:Nat) (td:TypeId) (v vd:Value) (w:World) (kd:w.heap[Bd]? =some (.cells #[vd] td)) (hd:NumL (fun _=>True) .u32 w vd d) (hr:RatL (fun _=>True) .u32 w v r) (hsr:Rsz r 10000000) (hsd:(dg d).length ≤10000000) (hdv:r.den∣d) (hd0:d≠0):
  Calls Tryz.prog 141 #[v,.pointer (some ⟨Bd,0,none⟩)] w fun e w'=>∃v',e= .returned v'∧Le w w'∧IntL w' v' (qB9 d r):=by
 have hsgn:=qL7 hdv hd0;have habs:=qH9 d r;obtain⟨A1,c1,B1,e1,rfl,hn,hm⟩:=hr.form;obtain⟨n1,hn1⟩:∃n,(dg (rnum r)).length =n:=⟨_,rfl⟩;obtain⟨m1,hm1⟩:∃n,(dg r.den).length =n:=⟨_,rfl⟩;obtain⟨sg,hsg⟩:∃s,rneg r=s:=⟨_,rfl⟩;rw[hn1]at hn ⊢;rw[hm1]at hm ⊢;rw[hsg]at hsgn ⊢;obtain⟨W1,hW1,hb1,k1⟩:=enew w (.cells #[.bool sg,.slice A1 n1 c1,.slice B1 m1 e1] 70);obtain⟨W2,hW2,hb2,k2⟩:=enew W1 (.cells #[.bool false,.slice none 0 0] 156);have hle2:Le w W2:=hb1.trans (hb2.mono hb1.size);have k12:=(hb2.block _ (gsl k1)).trans k1;obtain⟨x0,hx0⟩:∃x,w.heap.size=x:=⟨_,rfl⟩;obtain⟨x1,hx1⟩:∃x,W1.heap.size=x:=⟨_,rfl⟩;rw[hx0]at k12;rw[hx1]at k2;have hB:w.heap.size≤x1:=by have:=hb1.size;omega
 have p0:W2.cell? ⟨x0,0,none⟩=some (.bool sg):=cell_of_row W2 x0 0 _ _ _ k12;have p1:W2.cell? ⟨x0,1,none⟩=some (.slice A1 n1 c1):=cell_of_row W2 x0 1 _ _ _ k12;have p2:W2.cell? ⟨x0,2,none⟩=some (.slice B1 m1 e1):=cell_of_row W2 x0 2 _ _ _ k12;have kd2:=(hle2.block _ (gsl kd)).trans kd;have q0:W2.cell? ⟨Bd,0,none⟩=some vd:=cell_of_row W2 Bd 0 _ _ _ kd2;have ko:=qBl (fun _=>True) d r.den _ _ W2 (Up.any _) (hd.le hle2) (hm.le hle2) hsd hsr.2 (by have:=qAU r;omega);have hnw:=hn.le hle2;obtain⟨y,hy⟩:∃y,qB9 d r=y:=⟨_,rfl⟩;obtain⟨q,hq⟩:∃q,d / r.den=q:=⟨_,rfl⟩;obtain⟨R,hR⟩:∃q,rnum r=q:=⟨_,rfl⟩;have hsr1:=hsr.1;have hsq:(dg q).length ≤10000000:=by rw[←hq];exact Nat.le_trans (qDz _ _) hsd
 rw[hR]at hnw habs hsr1;rw[hq]at ko habs;rw[hy]at hsgn habs ⊢;have⟨kd',hd',hn',hm',hb1',k1',hb2',k2'⟩:=hyd8 kd hd hn hm hb1 k1 hb2 k2;have⟨hsgn',hle2',k12',kd2',ko',hy',hsg',habs'⟩:=hyd8 hsgn hle2 k12 kd2 ko hy hsg habs;have⟨hnw',hq',hR',hn1',hm1',hsr',hdv',hsr1'⟩:=hyd8 hnw hq hR hn1 hm1 hsr hdv hsr1;have hsq':=hyd1 hsq;clear hsq hsr1 hdv hsr hm1 hn1 hR hq hnw habs hsg hy ko kd2 k12 hle2 hsgn k2 hb2 k1 hb1 hm hn hd kd;go_enter Tryz.func141,Tryz.ntmps141;go_wp2_with (fail);clear hW1 hW2;go_at_call 65;refine ko'.out.mono ?_;rintro e W4 ⟨v1,v2,rfl,hle4,hn4,-⟩;have k14:=(hle4.block _ (gsl k12'.out)).trans k12'.out;have k24:=(hle4.block _ (gsl k2'.out)).trans k2'.out;have p0:W4.cell? ⟨x0,0,none⟩=some (.bool sg):=cell_of_row W4 x0 0 _ _ _ k14;have p1:W4.cell? ⟨x0,1,none⟩=some (.slice A1 n1 c1):=cell_of_row W4 x0 1 _ _ _ k14;have l1:=gsl k14;have l3:=gsl k24;obtain⟨A5,c5,rfl⟩:=hn4.slice;obtain⟨n5,hn5⟩:∃P,(dg q).length =P:=⟨_,rfl⟩;rw[hn5]at hn4 ⊢;have hle04:Le w W4:=(show Le w W2 from hle2'.out).trans hle4;have hnw4:=hnw'.out.le hle4;have⟨hle4',k14',k24',hn4',hn5',hle04',p0',p1'⟩:=hyd8 hle4 k14 k24 hn4 hn5 hle04 p0 p1;have hnw4':=hyd1 hnw4;clear hnw4 p1 p0 hle04 hn5 hn4 k24 k14 hle4;go_wp2_with (fail);refine qAM (R:=leRel) 7 [some 13,some 14,some 15,some 16,some 17,some 18,some 19,none] [[],[0],[],[2],[],[3,4],[1,5],[6]]
  [.eq (.pointer (some ⟨x0,0,none⟩)),.eq (.bool sg),.eq (.pointer (some ⟨x0,1,none⟩)),.eq (.slice A1 n1 c1),.eq (.slice A5 n5 c5),MPred.num (fun _=>True) .u32 (R*q),MPred.bn sg (R*q)] (fun _ _=>False) (by kernel_rfl) (by kernel_rfl) (by kernel_rfl) (by kernel_rfl) (by kernel_rfl) ?_ (fun _ _ _ _ h=>h.elim) ?_
 ·simp only[List.take_succ_cons,List.take_zero];refine sMc rfl ?_ (sMc rfl ?_ (sMc rfl ?_ (sMc rfl ?_ (sMc rfl ?_ (sMc rfl ?_ (sMc rfl ?_ (qAR)))))))
  ·intro xv W hR hf Q hK hP;simp only[fA]at hK ⊢;go_wp2;exact hK _ _ lrR rfl
  ·intro xv W hR hf Q hK hP;obtain⟨e0,-⟩:=hf;change _=_ at e0;have t0:=(Below.cell hR (p:=⟨x0,0,none⟩) l1).trans p0'.out;simp only[fA,e0]at hK ⊢;go_wp2;exact hK _ _ lrR rfl
  ·intro xv W hR hf Q hK hP;simp only[fA]at hK ⊢;go_wp2;exact hK _ _ lrR rfl
  ·intro xv W hR hf Q hK hP;obtain⟨e0,-⟩:=hf;change _=_ at e0;have t0:=(Below.cell hR (p:=⟨x0,1,none⟩) l1).trans p1'.out;simp only[fA,e0]at hK ⊢;go_wp2;exact hK _ _ lrR rfl
  ·intro xv W hR hf Q hK hP;simp only[fA]at hK ⊢;go_wp2;exact hK _ _ lrR rfl
  ·intro xv W hR hf Q hK hP;obtain⟨e0,e1,-⟩:=hf;change _=_ at e0 e1;simp only[fA,e0,e1]at hK ⊢;have kc:=qB8 (fun _=>True) R q _ _ W (Up.any _) (hnw4'.out.le hR) (hn4'.out.le hR) (Nat.le_trans hsr1'.out (by decide)) (Nat.le_trans hsq'.out (by decide));have kc':=hyd1 kc;clear kc;go_wp2_with (fail);go_at_call 116;refine kc'.out.mono ?_;rintro e w' ⟨v',rfl,y1,y2⟩;have⟨y1',y2'⟩:=hyd2 y1 y2;clear y2 y1;go_wp2;exact hK _ _ y1'.out y2'.out
  ·intro xv W hR hf Q hK hP;obtain⟨e0,e1,-⟩:=hf;change _=_ at e0;replace e1:NumL (fun _=>True) .u32 W (xv 5) (R*q):=e1;have e9:=e1;obtain⟨A9,c9,q9⟩:=e1.slice;rw[q9]at e9;simp only[fA,e0,q9]at hK ⊢;have e9':=hyd1 e9;clear e9;go_wp2;exact hK _ _ lrR ⟨_,_,_,rfl,e9'.out⟩
 intro xv W hR hf Q' hQ1 _;obtain⟨A3,m3,c3,qv,f6⟩:=hf 6 (by decide);simp only[List.drop_succ_cons,List.drop_zero];rw[show List.range 7=[0,1,2,3,4,5,6]from rfl];simp only[fA,qv];clear hf;clear qv;have k35:=(hR.block _ l3).trans k24'.out;have t0:W.cell? ⟨x1,0,none⟩=some (.bool false):=cell_of_row W x1 0 _ _ _ k35;have t1:W.cell? ⟨x1,1,none⟩=some (.slice none 0 0):=cell_of_row W x1 1 _ _ _ k35;have⟨w0,w1⟩:=frz2 k35;have⟨f6',hR',k35'⟩:=hyd3 f6 hR k35;clear k35 hR f6;go_wp2;refine hQ1 _ _ ?_;clear hQ1 t0 t1 w0 w1;have f6:=f6'.out;have hR:=hR'.out;clear f6' hR' k35';have k34:=(hR.block _ l3).trans k24'.out;have hle5:Le w W:=(show Le w W4 from hle04'.out).trans hR;have f6:NumL (fun _=>True) .u32 W (.slice A3 m3 c3) y.natAbs:=by rw[habs'.out];exact f6
 obtain⟨g1,g2,d0,d1⟩:=qCn (b:=sg) (z:=y) hle5 hB k34 (qAV _) (qAK _ _ _) f6 hsgn'.out.symm;have⟨hR',hle5',k34',f6',g1',g2'⟩:=hyd6 hR hle5 k34 f6 g1 g2;clear g2 g1 f6 k34 hle5 hR;go_wp2;exact bodyPost_ret (v:= .agg #[.bool sg,.slice A3 m3 c3]) (by simp[results,Tryz.results141,go_sem,d0,d1]) rfl ⟨_,rfl,g1'.out,g2'.out⟩
theorem qJd:qAF Tryz.prog 141:=fun _ _=>by kernel_rfl
theorem qMo (r:Rat) (d Bd:Nat) (td:TypeId) (vd:Value) (w:World) (kd:w.heap[Bd]? =some (.cells #[vd] td)) (hd:NumL (fun _=>True) .u32 w vd d) (hsr:Rsz r 10000000) (hsd:(dg d).length ≤10000000) (hdv:r.den∣d) (hd0:d≠0):
  ElOk Tryz.prog (ratK .u32) intK (fun c=> .ok (qB9 d c)) 141 #[] #[.pointer (some ⟨Bd,0,none⟩)] w r:=by
 rintro cs ⟨s,A,n,c,B,m,e,rfl,hx⟩;refine(qMn r d Bd td _ vd w kd hd hx hsr hsd hdv hd0).mono ?_;rintro e W' ⟨v',rfl,hle,A2,n2,c2,rfl,hv⟩;exact⟨hle,.inl ⟨_,_,rfl,rfl,A2,n2,c2,rfl,hv⟩⟩
theorem qI7 (base MS:Nat) (v:Value) (xs:List Rat) (w:World) (hv:RowE (ratK .u32) 70 base w v xs) (hl:xs.length≤66) (hs:∀r∈xs,Rsz r MS) (hMS1:1≤MS) (hMS2:70*MS≤9000000):
  Calls Tryz.prog 97 #[v] w fun e w'=>∃v',e= .returned v'∧Le w w'∧RowE intK 156 w.heap.size w' v' (qAG xs):=by
 obtain⟨A,c,rfl⟩:=hv.slice;obtain⟨n,hn⟩:∃n,xs.length=n:=⟨_,rfl⟩;rw[hn]at hl hv ⊢;obtain⟨W0,hW0,hb0,k0⟩:=enew w (.cells #[.int .u32 1] 92)
 have hone:NumL (fun _=>True) .u32 W0 (.slice (some ⟨w.heap.size,0,none⟩) 1 1) 1:=by
  rw[←hW0];exact qDG (L:=fun _=>True) (k:= .u32) (V:=w) (g:=1) (fun _ _=>trivial) (by omega) qDy _
 obtain⟨y0,hy0⟩:∃b,w.heap.size=b:=⟨_,rfl⟩;rw[hy0]at hone;obtain⟨W1,hW1,hb1,k1⟩:=enew W0 (.cells #[.slice (some ⟨y0,0,none⟩) 1 1] 68);obtain⟨bd,hbd⟩:∃b,W0.heap.size=b:=⟨_,rfl⟩;rw[hbd]at k1;have hb01:Below w.heap.size w W1:=hb0.trans (hb1.mono hb0.size);have hrow1:=hv.le hb01;have hwg:w.heap.size≤bd:=by have:=hb0.size;omega
 have hgl:∀b,(Value.slice A n c).ownBlock =some b→b≠bd:=fun b hb e=>by have:=(hv.nib hb).2.1;omega
 have hd0:NumL (fun _=>True) .u32 W1 (.slice (some ⟨y0,0,none⟩) 1 1) (denK xs 0):=hone.le hb1;have hdz:=fun k (hk:k≤66)=>show(dg (denK xs k)).length ≤1+66*MS from Nat.le_trans (qGL hs hMS1 k) (by have:=Nat.mul_le_mul_right MS hk;omega);have⟨hv',hn',hs',hb0',k0',hone',hb1',k1'⟩:=hyd8 hv hn hs hb0 k0 hone hb1 k1;clear k1 hb1 hone k0 hb0 hs hn hv;have⟨hb01',hrow1',hgl',hd0',hdz'⟩:=hyd5 hb01 hrow1 hgl hd0 hdz;clear hdz hd0 hgl hrow1 hb01;go_enter Tryz.func97,Tryz.ntmps97;go_wp2_with (fail);clear hW0 hW1;go_loopw [11] (fun i wr=>∃(k:Nat) (G n0 c0:_),i= .int .i64 (k:Int)∧k≤n∧Hid (Below w.heap.size w wr)∧Hid (RowE (ratK .u32) 70 base wr (.slice A n c) xs)∧Hid (wr.heap[bd]? =some (.cells #[.slice G n0 c0] 68))∧Hid (NumL (fun _=>True) .u32 wr (.slice G n0 c0) (denK xs k))) (fun i _=>n - (intOf i).toNat)
 case atStart=>exact⟨0,some ⟨y0,0,none⟩,1,1,rfl,Nat.zero_le _,hb01',hrow1',k1',hd0'⟩
 case round=>
  obtain⟨k,G,n0,c0,rfl,hk,hb,hrow,kg,hgw⟩:=hrel
  by_cases hlt:k<n
  ·have hkx:k<xs.length:=by rw[hn'.out];exact hlt
   obtain⟨gx,cx,e1,-,hgx,-,-,cs,hrd,hc⟩:=hrow.out.at hkx;rw[hn'.out]at e1;injection e1 with e1 e2 e3;subst e1 e3;clear e2;have hsc:=hs'.out _ (List.getElem_mem hkx);have hnx:denK xs (k+1)=denK xs k*((xs.getD k 0).den / Nat.gcd (denK xs k) (xs.getD k 0).den):=rfl;have hyd:xs.getD k 0=xs[k]:=by rw[List.getD_eq_getElem?_getD,List.getElem?_eq_getElem hkx];rfl
   rw[hyd]at hnx;generalize xs[k]=r9 at hrd hyd hsc hnx;obtain⟨s6,A6,n6,c6,B6,m6,d6,rfl,hcv⟩:=hrd;obtain⟨_,_,_,_,e7,-,hm7⟩:=hcv.form
   have hden:NumL (fun _=>True) .u32 wr (.slice B6 m6 d6) r9.den:=by
    injection e7 with e7;have e8:=congrArg (fun a=>a[2]!) e7;change Value.slice B6 m6 d6=_ at e8;rw[e8];exact hm7
   clear e7 hm7;have hsd:(dg r9.den).length ≤MS:=hsc.2;have hgp:=qEm (denK xs k) r9;obtain⟨D,hD⟩:∃D,denK xs k=D:=⟨_,rfl⟩;obtain⟨E,hE⟩:∃D,r9.den=D:=⟨_,rfl⟩;have hDz:=hdz'.out k (by omega);have hgw0:=hgw.out;rw[hD]at hnx hgp hDz hgw0;rw[hE]at hnx hgp hden hsd;obtain⟨F,hF⟩:∃F,Nat.gcd D E=F:=⟨_,rfl⟩
   have hFE:F≤E:=by
    rw[←hF];exact Nat.le_of_dvd (by rw[←hE];exact qAU r9) (Nat.gcd_dvd_right _ _)
   have hFz:(dg F).length ≤MS:=Nat.le_trans (qAJ hFE) hsd;rw[hF]at hnx hgp;obtain⟨q,hq⟩:∃q,E / F=q:=⟨_,rfl⟩;have hqz:(dg q).length ≤MS:=by rw[←hq];exact Nat.le_trans (qDz _ _) hsd
   rw[hq]at hnx;obtain⟨W3,hW3,hb3,k3⟩:=enew wr (.cells #[.bool s6,.slice A6 n6 c6,.slice B6 m6 d6] 70);obtain⟨bx,hbx⟩:∃b,wr.heap.size=b:=⟨_,rfl⟩;rw[hbx]at k3;have hb03:Below w.heap.size w W3:=hb.out.trans (hb3.mono hb.out.size);have kg3:=(hb3.block _ (gsl kg.out)).trans kg.out;have hrow3:=hrow.out.le hb3;have hden3:=hden.le hb3;have hgw3:=hgw0.le hb3;have x0:wr.cell? ⟨gx,k*3,none⟩=some (.bool s6):=hc 0 _ rfl;have x1:wr.cell? ⟨gx,k*3+1,none⟩=some (.slice A6 n6 c6):=hc 1 _ rfl;have x2:wr.cell? ⟨gx,k*3+2,none⟩=some (.slice B6 m6 d6):=hc 2 _ rfl;have t2:W3.cell? ⟨bx,2,none⟩=some (.slice B6 m6 d6):=cell_of_row W3 bx 2 _ _ _ k3;have q0:W3.cell? ⟨bd,0,none⟩=some (.slice G n0 c0):=cell_of_row W3 bd 0 _ _ _ kg3;have l1:=gsl k3;have l2:=gsl kg3;have hFz2:(dg F).length ≤10000000:=by omega
   have hEz2:(dg E).length ≤10000000:=by omega
   have hDz2:(dg D).length ≤10000000:=by omega
   have j1:(k:Int)<(n:Int):=by omega
   have j2:(0:Int)≤(k:Int):=by omega
   have hF0:F≠0:=by omega
   have⟨hb',hrow',kg',hgw',hc',hsc',hnx',hyd'⟩:=hyd8 hb hrow kg hgw hc hsc hnx hyd;have⟨hcv',hb3',k3',hb03',kg3',hrow3',hgw0',hden'⟩:=hyd8 hcv hb3 k3 hb03 kg3 hrow3 hgw0 hden;have hgp':=hyd1 hgp;clear hgp hden hgw0 hrow3 kg3 hb03 k3 hb3 hcv hyd hnx hsc hc hgw kg hrow hb;have⟨hDz',hFE',hFz',hD',hE',hF',hq',hqz'⟩:=hyd8 hDz hFE hFz hD hE hF hq hqz;have⟨hden3',hgw3',hFz2',hEz2',hDz2',hF0',hsd',t2'⟩:=hyd8 hden3 hgw3 hFz2 hEz2 hDz2 hF0 hsd t2;have q0':=hyd1 q0;clear q0 t2 hsd hF0 hDz2 hEz2 hFz2 hgw3 hden3 hqz hq hF hE hD hFz hFE hDz;go_wp2_with (fail);clear hW3;refine qAM (R:=leRel) 12 [some 16,some 17,some 18,some 19,some 20,some 21,some 22,some 15,some 23,some 24,some 6,some 7] [[],[0],[],[],[3],[2,4],[1,5],[6],[7],[7],[8],[9]]
    [.eq (.pointer (some ⟨bx,2,none⟩)),.eq (.slice B6 m6 d6),.eq (.slice G n0 c0),.eq (.pointer (some ⟨bx,2,none⟩)),.eq (.slice B6 m6 d6),MPred.num (fun _=>True) .u32 (F),MPred.nn q (E%F),MPred.nn q (E%F),MPred.num (fun _=>True) .u32 q,MPred.num (fun _=>True) .u32 (E%F),MPred.num (fun _=>True) .u32 q,MPred.num (fun _=>True) .u32 (E%F)] (fun _ _=>False) (by kernel_rfl) (by kernel_rfl) (by kernel_rfl) (by kernel_rfl) (by kernel_rfl) ?_ (fun _ _ _ _ h=>h.elim) ?_
   ·simp only[List.take_succ_cons,List.take_zero];refine sMc rfl ?_ (sMc rfl ?_ (sMc rfl ?_ (sMc rfl ?_ (sMc rfl ?_ (sMc rfl ?_ (sMc rfl ?_ (sMc rfl ?_ (sMc rfl ?_ (sMc rfl ?_ (sMc rfl ?_ (sMc rfl ?_ (qAR))))))))))))
    ·intro xv W hR hf Q hK hP;simp only[fA]at hK ⊢;go_wp2;exact hK _ _ lrR rfl
    ·intro xv W hR hf Q hK hP;obtain⟨e0,-⟩:=hf;change _=_ at e0;have t0:=(Below.cell hR (p:=⟨bx,2,none⟩) l1).trans t2'.out;simp only[fA,e0]at hK ⊢;go_wp2;exact hK _ _ lrR rfl
    ·intro xv W hR hf Q hK hP;have t0:=(Below.cell hR (p:=⟨bd,0,none⟩) l2).trans q0'.out;simp only[fA]at hK ⊢;go_wp2;exact hK _ _ lrR rfl
    ·intro xv W hR hf Q hK hP;simp only[fA]at hK ⊢;go_wp2;exact hK _ _ lrR rfl
    ·intro xv W hR hf Q hK hP;obtain⟨e0,-⟩:=hf;change _=_ at e0;have t0:=(Below.cell hR (p:=⟨bx,2,none⟩) l1).trans t2'.out;simp only[fA,e0]at hK ⊢;go_wp2;exact hK _ _ lrR rfl
    ·intro xv W hR hf Q hK hP;obtain⟨e0,e1,-⟩:=hf;change _=_ at e0 e1;simp only[fA,e0,e1]at hK ⊢;have kc:=qDv (fun _=>True) D E _ _ W (Up.any _) (hgw3'.out.le hR) (hden3'.out.le hR) hDz2'.out hEz2'.out;rw[hF'.out]at kc;have kc':=hyd1 kc;clear kc;go_wp2_with (fail);go_at_call 104;refine kc'.out.mono ?_;rintro e w' ⟨v',rfl,y1,y2⟩;have⟨y1',y2'⟩:=hyd2 y1 y2;clear y2 y1;go_wp2;exact hK _ _ y1'.out y2'.out
    ·intro xv W hR hf Q hK hP;obtain⟨e0,e1,-⟩:=hf;change _=_ at e0;replace e1:NumL (fun _=>True) .u32 W (xv 5) (F):=e1;obtain⟨A9,c9,q9⟩:=e1.slice;rw[q9]at e1;simp only[fA,e0,q9]at hK ⊢;have kc:=qBl (fun _=>True) E F _ _ W (Up.any _) (hden3'.out.le hR) e1 hEz2'.out hFz2'.out hF0'.out;rw[hq'.out]at kc;have kc':=hyd1 kc;clear kc;go_wp2_with (fail);go_at_call 65;refine kc'.out.mono ?_;rintro e w' ⟨v1,v2,rfl,y1,y2,y3⟩;have⟨y1',y2',y3'⟩:=hyd3 y1 y2 y3;clear y3 y2 y1;go_wp2;exact hK _ _ y1'.out ⟨_,_,rfl,y2'.out,y3'.out⟩
    ·intro xv W hR hf Q hK hP;obtain⟨e0,-⟩:=hf;replace e0:∃v1 v2,(xv 6)= .tuple #[v1,v2]∧NumL (fun _=>True) .u32 W v1 q∧NumL (fun _=>True) .u32 W v2 (E%F):=e0;obtain⟨v1,v2,q9,h1,h2⟩:=e0;simp only[fA,q9]at hK ⊢;go_wp2;exact hK _ _ lrR ⟨_,_,rfl,h1,h2⟩
    ·intro xv W hR hf Q hK hP;obtain⟨e0,-⟩:=hf;replace e0:∃v1 v2,(xv 7)= .tuple #[v1,v2]∧NumL (fun _=>True) .u32 W v1 q∧NumL (fun _=>True) .u32 W v2 (E%F):=e0;obtain⟨v1,v2,q9,h1,h2⟩:=e0;simp only[fA,q9]at hK ⊢;go_wp2;exact hK _ _ lrR h1
    ·intro xv W hR hf Q hK hP;obtain⟨e0,-⟩:=hf;replace e0:∃v1 v2,(xv 7)= .tuple #[v1,v2]∧NumL (fun _=>True) .u32 W v1 q∧NumL (fun _=>True) .u32 W v2 (E%F):=e0;obtain⟨v1,v2,q9,h1,h2⟩:=e0;simp only[fA,q9]at hK ⊢;go_wp2;exact hK _ _ lrR h2
    ·intro xv W hR hf Q hK hP;obtain⟨e0,-⟩:=hf;replace e0:NumL (fun _=>True) .u32 W (xv 8) q:=e0;simp only[fA]at hK ⊢;go_wp2;exact hK _ _ lrR e0
    ·intro xv W hR hf Q hK hP;obtain⟨e0,-⟩:=hf;replace e0:NumL (fun _=>True) .u32 W (xv 9) (E%F):=e0;simp only[fA]at hK ⊢;go_wp2;exact hK _ _ lrR e0
   intro xv W hR hf Q' hQ1 _;have f6:NumL (fun _=>True) .u32 W (xv 10) q:=hf 10 (by decide);obtain⟨A7,c7,q7⟩:=f6.slice;rw[q7]at f6;simp only[List.drop_succ_cons,List.drop_zero];rw[show List.range 12=[0,1,2,3,4,5,6,7,8,9,10,11]from rfl];simp only[fA,q7];clear hf;clear q7;have⟨f6',hR'⟩:=hyd2 f6 hR;clear hR f6;go_wp2;refine hQ1 _ _ ?_;clear hQ1;have f6:=f6'.out;have hR:=hR'.out;clear f6' hR';have hb05:Below w.heap.size w W:=hb03'.out.trans (hR.mono hb03'.out.size);have kg5:=(hR.block _ l2).trans kg3'.out;have hrow5:=hrow3'.out.le hR;have q0:W.cell? ⟨bd,0,none⟩=some (.slice G n0 c0):=cell_of_row W bd 0 _ _ _ kg5;have kt:=qB8 (fun _=>True) D q _ _ W (Up.any _) (hgw3'.out.le hR) f6 (Nat.le_trans hDz2'.out (by decide)) (Nat.le_trans hqz'.out (by omega));rw[←hnx'.out]at kt;have⟨hb05',kg5',hrow5',kt',f6',hR'⟩:=hyd6 hb05 kg5 hrow5 kt f6 hR;clear hR f6 kt hrow5 kg5 hb05;go_wp2_with (fail);go_at_call 116;refine kt'.out.mono ?_;rintro e W4 ⟨v4,rfl,hle4,hn4⟩;obtain⟨A4,c4,rfl⟩:=hn4.slice;obtain⟨P,hP⟩:∃P,(dg (denK xs (k+1))).length =P:=⟨_,rfl⟩;rw[hP]at hn4 ⊢;have hb04:Below w.heap.size w W4:=hb05'.out.trans (hle4.mono hb05'.out.size);have kg4:=(hle4.block _ (gsl kg5'.out)).trans kg5'.out;have hrow4:=hrow5'.out.le hle4;have t2:W4.cell? ⟨bd,0,none⟩=some (.slice G n0 c0):=cell_of_row W4 bd 0 _ _ _ kg4;have f0:=fz0 kg4 0;have nb:=nib1 kg4 (qAK _ _ _);have hk5:Kp .u32 W4 (W4.setCell ⟨bd,0,none⟩ (.slice A4 P c4)):=(Kp.refl W4).set nb (qAK _ _ _)
   have r1:Below w.heap.size w (W4.setCell ⟨bd,0,none⟩ (.slice A4 P c4)):=Below.setCell hb04 (p:=⟨bd,0,none⟩) hwg _;have r2:RowE (ratK .u32) 70 base (W4.setCell ⟨bd,0,none⟩ (.slice A4 P c4)) (.slice (some ⟨gx,0,none⟩) n c) xs:=hrow4.keep hk5 fun b hb=>Below.heap_setCell _ ⟨bd,0,none⟩ _ b (hgl'.out b hb);have r3:(W4.setCell ⟨bd,0,none⟩ (.slice A4 P c4)).heap[bd]? =some (.cells #[.slice A4 P c4] 68):=qEd kg4 0 _;have r4:=hn4.kp hk5;have⟨hle4',hn4',hP',hb04',kg4',hrow4',nb',hk5'⟩:=hyd8 hle4 hn4 hP hb04 kg4 hrow4 nb hk5;have⟨r1',r2',r3',r4'⟩:=hyd4 r1 r2 r3 r4;clear r4 r3 r2 r1 hk5 nb hrow4 kg4 hb04 hP hn4 hle4;go_wp2;go_roundw
   case rel=>exact⟨k+1,_,_,_,by go_num,by omega,r1',r2',r3',r4'⟩
   case measure=>simp[intOf];omega
  ·obtain rfl:k=n:=by omega
   have j1:¬(k:Int)<(k:Int):=by omega
   have hgI:denK xs k=denI xs:=by unfold denI;rw[hn'.out]
   have hgw2:=hgw.out;rw[hgI]at hgw2;have hgy:=hdz'.out k (by omega);have hgp:=qFN xs k;rw[hgI]at hgy hgp;have hgy2:(dg (denI xs)).length ≤10000000:=by omega
   have hmp:=qM7 (fun r=> .ok (qB9 (denI xs) r)) 141 #[] #[.pointer (some ⟨bd,0,none⟩)] _ xs wr hrow.out.seq (by rw[hn'.out];omega) qJd fun W hW x hx=>
    qMo x (denI xs) bd 68 (.slice G n0 c0) W ((hW.block _ (gsl kg.out)).trans kg.out) (hgw2.le hW) (qDC (hs'.out x hx) (by omega)) hgy2 (qGt hx) (by omega)
   have hme:mapE (fun r:Rat=>(.ok (qB9 (denI xs) r):Except Int Int)) xs= .ok (xs.map (qB9 (denI xs))):=qDD (g:=qB9 (denI xs)) fun x _=>rfl;rw[hme]at hmp;obtain⟨zs,hzs⟩:∃zs,xs.map (qB9 (denI xs))=zs:=⟨_,rfl⟩;have hzl:zs.length≤1000000:=by rw[←hzs,List.length_map,hn'.out];omega
   have hzz:∀x∈zs,Isz x 10000000:=by
    intro x hx;rw[←hzs,List.mem_map]at hx;obtain⟨r,hr,rfl⟩:=hx;exact(qFn (hs'.out r hr) hgy).up (by omega)
   have hpl:qAG xs=qA7 zs:=by unfold qAG;rw[hzs]
   rw[hzs]at hmp;clear hme;have⟨hb',hrow',kg',hgw',hgI',hgw2',hgy',hgy2'⟩:=hyd8 hb hrow kg hgw hgI hgw2 hgy hgy2;have⟨hmp',hpl',hgp',hzs',hzz'⟩:=hyd5 hmp hpl hgp hzs hzz;clear hzz hzs hgp hpl hmp hgy2 hgy hgw2 hgI hgw kg hrow hb;go_wp2_with (fail);go_at_call 140;refine hmp'.out.mono ?_;intro e W5 hE;obtain⟨v5,rfl,hle5,hr5⟩:=hE.ok;have hw5:Le w W5:=(show Below w.heap.size w wr from hb'.out.out).trans (hle5.mono hb'.out.out.size);have kp:=qE3 _ v5 zs W5 hr5 hzl hzz'.out;have⟨hE',hle5',hr5',hw5',kp'⟩:=hyd5 hE hle5 hr5 hw5 kp;clear kp hw5 hr5 hle5 hE;go_wp2_with (fail);go_at_call 139;refine kp'.out.mono ?_;rintro e W6 ⟨v6,rfl,hle6,hr6⟩;have hw6:=hw5'.out.trans hle6;have hr7:=hr6.base (base':=w.heap.size) hw5'.out.size;rw[←hpl'.out]at hr7;have⟨hle6',hr6',hw6',hr7'⟩:=hyd4 hle6 hr6 hw6 hr7;clear hr7 hw6 hr6 hle6;go_wp2;go_ret;exact⟨_,rfl,hw6'.out,hr7'.out⟩
theorem qGu (base:Nat) (v:Value) (xs:List Rat) (w:World) (hv:RowE (ratK .u32) 70 base w v xs) (hl:xs.length≤66) (hs:∀r∈xs,Rsz r 40):
  Calls Tryz.prog 97 #[v] w fun e w'=>∃v',e= .returned v'∧Le w w'∧RowE intK 156 w.heap.size w' v' (qAG xs):=
 qI7 base 40 v xs w hv hl hs (by decide) (by decide)
end Go.Proofs.YtenjpccpldajoaaGreatDoor
