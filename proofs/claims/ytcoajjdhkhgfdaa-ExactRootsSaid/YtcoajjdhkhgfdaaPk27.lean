/- Whole polynomials: plain. (The regions between --@ARM and --@END are printed by gen_poly.py.) -/
import Derived.Test.YtcoajjdhkhgfdaaPk26
namespace Go.Proofs.Ytcoajjdhkhgfdaa
set_option maxRecDepth 100000
set_option maxHeartbeats 1000000
open Go.RowKit Go.Shelf
set_option linter.unusedVariables false
set_option linter.unusedSimpArgs false
def denK (l:List Rat):Nat->Nat
 | 0=>1
 | k+1=>denK l k*((l.getD k 0).den / Nat.gcd (denK l k) (l.getD k 0).den)
def denI (l:List Rat):Nat:=denK l l.length
def qBQ (d:Nat) (r:Rat):Int:=r.num*((d / r.den:Nat):Int)
def qAG (l:List Rat):List Int:=qA5 (l.map (qBQ (denI l)))
theorem qDw (a:Nat) (r:Rat):0<Nat.gcd a r.den:=Nat.gcd_pos_of_pos_right _ (qA3 r)
theorem qE4 (l:List Rat):∀k,0<denK l k
 | 0=>Nat.one_pos
 | k+1=>by
  unfold denK;exact Nat.mul_pos (qE4 l k) (Nat.div_pos (Nat.le_of_dvd (qA3 _) (Nat.gcd_dvd_right _ _)) (qDw _ _))
theorem qIC (l:List Rat) (k:Nat):(l.getD k 0).den ∣denK l (k+1)/\denK l k∣denK l (k+1):=by
 refine⟨?_,?_⟩
 ·unfold denK;obtain⟨a,d⟩:=Nat.gcd_dvd_left (denK l k) (l.getD k 0).den;obtain⟨b,c⟩:=Nat.gcd_dvd_right (denK l k) (l.getD k 0).den;have f:=qDw (denK l k) (l.getD k 0)
  have hq:(l.getD k 0).den / Nat.gcd (denK l k) (l.getD k 0).den =b:=by
   conv=>lhs;arg 1;rw[c]
   exact Nat.mul_div_cancel_left _ f
  rw[hq];refine⟨a,?_⟩
  conv=>lhs;arg 1;rw[d]
  conv=>rhs;arg 1;rw[c]
  rw[Nat.mul_assoc,Nat.mul_assoc,Nat.mul_comm a b]
 ·exact⟨_,rfl⟩
theorem qIu (l:List Rat):∀{k j},j<k->(l.getD j 0).den ∣denK l k
 | k+1,j,h=>by
  by_cases e:j=k
  ·subst e;exact(qIC l j).1
  ·exact Nat.dvd_trans (qIu l (by omega)) (qIC l k).2
theorem qFr {l:List Rat} {r:Rat} (h:r∈l):r.den∣denI l:=by
 obtain⟨j,b,rfl⟩:=List.getElem_of_mem h;have:=qIu l b;rw[List.getD_eq_getElem?_getD,List.getElem?_eq_getElem b]at this;exact this
theorem qDO (a b:Nat):(dg (a / b)).length <=(dg a).length :=qAH (Nat.div_le_self _ _)
theorem qFV {l:List Rat} {M:Nat} (h:∀r∈l,Rsz r M) (hM:1<=M):∀k,(dg (denK l k)).length <=1+k*M
 | 0=>by unfold denK;rw[qGH];simp
 | k+1=>by
  have ih:=qFV h hM k;unfold denK;have h1:=qAK (denK l k) ((l.getD k 0).den / Nat.gcd (denK l k) (l.getD k 0).den);have h2:=qDO (l.getD k 0).den (Nat.gcd (denK l k) (l.getD k 0).den)
  have h3:(dg (l.getD k 0).den).length <=M:=by
   rw[List.getD_eq_getElem?_getD]
   by_cases b:k<l.length
   ·rw[List.getElem?_eq_getElem b];exact(h _ (List.getElem_mem b)).2
   ·rw[List.getElem?_eq_none (by omega)];show(dg 1).length <=M;rw[qGH];exact hM
  rw[Nat.add_mul];omega
theorem qG0 (d:Nat) (r:Rat):(qBQ d r).natAbs =rnum r*(d / r.den):=by
 unfold qBQ rnum;rw[Int.natAbs_mul,Int.natAbs_natCast]
theorem qJ3 {d:Nat} {r:Rat} (hd:r.den∣d) (h0:d≠0):decide (qBQ d r<0)=rneg r:=by
 have hq:0<d / r.den:=Nat.div_pos (Nat.le_of_dvd (by omega) hd) (qA3 r);unfold qBQ rneg;rw[decide_eq_decide];have b:(0:Int)<((d / r.den:Nat):Int):=by omega
 constructor
 ·intro h;exact Int.not_le.1 λh0=>absurd h (Int.not_lt.2 (Int.mul_nonneg h0 (by omega)))
 ·intro h;exact Int.mul_neg_of_neg_of_pos h b
theorem qFA {d:Nat} {r:Rat} {M N:Nat} (hr:Rsz r M) (hd:(dg d).length <=N):Isz (qBQ d r) (M+N):=by
 unfold Isz;rw[qG0];have b:=qAK (rnum r) (d / r.den);have c:=qDO d r.den;have f:=hr.1;omega
def MPred.nn (a b:Nat):MPred:=⟨λv w=>∃v1 v2,v= .tuple #[v1,v2]/\NumL (λ_=>True) .u32 w v1 a/\NumL (λ_=>True) .u32 w v2 b,λ_ _ _ hb ⟨v1,v2,e,h1,h2⟩=>⟨v1,v2,e,h1.le hb,h2.le hb⟩⟩
theorem qKQ (r:Rat) (d Bd:Nat) (td:TypeId) (v vd:Value) (w:World) (kd:w.heap[Bd]? =some (.cells #[vd] td)) (hd:NumL (λ_=>True) .u32 w vd d) (hr:RatL (λ_=>True) .u32 w v r) (hsr:Rsz r 10000000) (hsd:(dg d).length <=10000000) (hdv:r.den∣d) (hd0:d≠0):
  Calls Try.prog 67 #[v,.pointer (some ⟨Bd,0,none⟩)] w λe w'=>∃v',e= .returned v'/\Le w w'/\IntL w' v' (qBQ d r):=by
 have j:=qJ3 hdv hd0;have i:=qG0 d r;obtain⟨A1,c1,B1,G,rfl,hn,hm⟩:=hr.form;obtain⟨n1,Z⟩:∃n,(dg (rnum r)).length =n:=⟨_,rfl⟩;obtain⟨m1,Y⟩:∃n,(dg r.den).length =n:=⟨_,rfl⟩;obtain⟨sg,ad⟩:∃s,rneg r=s:=⟨_,rfl⟩;rw[Z]at hn ⊢;rw[Y]at hm ⊢;rw[ad]at j ⊢;obtain⟨W1,a5,A,k1⟩:=enew w (.cells #[.bool sg,.slice A1 n1 c1,.slice B1 m1 G] 57);obtain⟨o,a6,I,k2⟩:=enew W1 (.cells #[.bool false,.slice none 0 0] 84);have f:Le w o:=A.trans (I.mono A.size);have m:=(I.block _ (gsl k1)).trans k1;obtain⟨k,a9⟩:∃x,w.heap.size=x:=⟨_,rfl⟩;obtain⟨x1,aA⟩:∃x,W1.heap.size=x:=⟨_,rfl⟩;rw[a9]at m;rw[aA]at k2;have hB:w.heap.size<=x1:=by have:=A.size;omega
 have p0:o.cell? ⟨k,0,none⟩=some (.bool sg):=cell_of_row o k 0 _ _ _ m;have p1:o.cell? ⟨k,1,none⟩=some (.slice A1 n1 c1):=cell_of_row o k 1 _ _ _ m;have p2:o.cell? ⟨k,2,none⟩=some (.slice B1 m1 G):=cell_of_row o k 2 _ _ _ m;have ai:=(f.block _ (gsl kd)).trans kd;have q0:o.cell? ⟨Bd,0,none⟩=some vd:=cell_of_row o Bd 0 _ _ _ ai;have ko:=qD6 (λ_=>True) d r.den _ _ o (Up.any _) (hd.le f) (hm.le f) hsd hsr.2 (by have:=qA3 r;omega);have ab:=hn.le f;obtain⟨y,hy⟩:∃y,qBQ d r=y:=⟨_,rfl⟩;obtain⟨q,hq⟩:∃q,d / r.den=q:=⟨_,rfl⟩;obtain⟨R,c⟩:∃q,rnum r=q:=⟨_,rfl⟩;have D:=hsr.1;have ao:(dg q).length <=10000000:=by rw[<-hq];exact Nat.le_trans (qDO _ _) hsd
 rw[c]at ab i D;rw[hq]at ko i;rw[hy]at j i ⊢;have⟨b0,bt,bv,bu,aT,bz,aU,aq⟩:=hyd8 kd hd hn hm A k1 I k2;have⟨ae,X,O,be,aF,bx,aZ,V⟩:=hyd8 j f m ai ko hy ad i;have⟨an,bw,H,aX,aW,ba,aV,af⟩:=hyd8 ab hq c Z Y hsr hdv D;have ap:=hyd1 ao;clear ao D hdv hsr Y Z c hq ab i ad hy ko ai m f j k2 I k1 A hm hn hd kd;go_enter Try.func67,Try.ntmps67;go_wp2_with (fail);clear a5 a6;go_at_call 63;refine aF.out.mono ?_;rintro e W4 ⟨v1,v2,rfl,g,L,-⟩;have E:=(g.block _ (gsl O.out)).trans O.out;have ag:=(g.block _ (gsl aq.out)).trans aq.out;have p0:W4.cell? ⟨k,0,none⟩=some (.bool sg):=cell_of_row W4 k 0 _ _ _ E;have p1:W4.cell? ⟨k,1,none⟩=some (.slice A1 n1 c1):=cell_of_row W4 k 1 _ _ _ E;have l1:=gsl E;have l3:=gsl ag;obtain⟨A5,c5,rfl⟩:=L.slice;obtain⟨n5,aa⟩:∃P,(dg q).length =P:=⟨_,rfl⟩;rw[aa]at L ⊢;have B:Le w W4:=(show Le w o from X.out).trans g;have N:=an.out.le g;have⟨a7,bb,S,am,aY,J,aH,aJ⟩:=hyd8 g E ag L aa B p0 p1;have ac:=hyd1 N;clear N p1 p0 B aa L ag E g;go_wp2_with (fail);refine qAV (R:=leRel) 7 [some 13,some 14,some 15,some 16,some 17,some 18,some 19,none] [[],[0],[],[2],[],[3,4],[1,5],[6]]
  [.eq (.pointer (some ⟨k,0,none⟩)),.eq (.bool sg),.eq (.pointer (some ⟨k,1,none⟩)),.eq (.slice A1 n1 c1),.eq (.slice A5 n5 c5),MPred.num (λ_=>True) .u32 (R*q),MPred.bn sg (R*q)] (λ_ _=>False) (by kernel_rfl) (by kernel_rfl) (by kernel_rfl) (by kernel_rfl) (by kernel_rfl) ?_ (λ_ _ _ _ h=>h.elim) ?_
 ·simp only[List.take_succ_cons,List.take_zero];refine sMc rfl ?_ (sMc rfl ?_ (sMc rfl ?_ (sMc rfl ?_ (sMc rfl ?_ (sMc rfl ?_ (sMc rfl ?_ (qA2)))))))
  ·intro T W c l Q hK hP;simp only[fA]at hK ⊢;go_wp2;exact hK _ _ lrR rfl
  ·intro T W c l Q hK hP;obtain⟨t,-⟩:=l;change _=_ at t;have t0:=(Below.cell c (p:=⟨k,0,none⟩) l1).trans aH.out;simp only[fA,t]at hK ⊢;go_wp2;exact hK _ _ lrR rfl
  ·intro T W c l Q hK hP;simp only[fA]at hK ⊢;go_wp2;exact hK _ _ lrR rfl
  ·intro T W c l Q hK hP;obtain⟨t,-⟩:=l;change _=_ at t;have t0:=(Below.cell c (p:=⟨k,1,none⟩) l1).trans aJ.out;simp only[fA,t]at hK ⊢;go_wp2;exact hK _ _ lrR rfl
  ·intro T W c l Q hK hP;simp only[fA]at hK ⊢;go_wp2;exact hK _ _ lrR rfl
  ·intro T W c l Q hK hP;obtain⟨t,G,-⟩:=l;change _=_ at t G;simp only[fA,t,G]at hK ⊢;have kc:=qBO (λ_=>True) R q _ _ W (Up.any _) (ac.out.le c) (am.out.le c) (Nat.le_trans af.out (by decide)) (Nat.le_trans ap.out (by decide));have aD:=hyd1 kc;clear kc;go_wp2_with (fail);go_at_call 64;refine aD.out.mono ?_;rintro e w' ⟨v',rfl,y1,y2⟩;have⟨aL,aM⟩:=hyd2 y1 y2;clear y2 y1;go_wp2;exact hK _ _ aL.out aM.out
  ·intro T W c l Q hK hP;obtain⟨t,G,-⟩:=l;change _=_ at t;replace G:NumL (λ_=>True) .u32 W (T 5) (R*q):=G;have e9:=G;obtain⟨A9,c9,q9⟩:=G.slice;rw[q9]at e9;simp only[fA,t,q9]at hK ⊢;have a2:=hyd1 e9;clear e9;go_wp2;exact hK _ _ lrR ⟨_,_,_,rfl,a2.out⟩
 intro T W c l Q' al _;obtain⟨A3,m3,c3,qv,M⟩:=l 6 (by decide);simp only[List.drop_succ_cons,List.drop_zero];rw[show List.range 7=[0,1,2,3,4,5,6]from rfl];simp only[fA,qv];clear l;clear qv;have F:=(c.block _ l3).trans S.out;have t0:W.cell? ⟨x1,0,none⟩=some (.bool false):=cell_of_row W x1 0 _ _ _ F;have t1:W.cell? ⟨x1,1,none⟩=some (.slice none 0 0):=cell_of_row W x1 1 _ _ _ F;have⟨w0,w1⟩:=frz2 F;have⟨U,H,ar⟩:=hyd3 M c F;clear F c M;go_wp2;refine al _ _ ?_;clear al t0 t1 w0 w1;have M:=U.out;have c:=H.out;clear U H ar;have ah:=(c.block _ l3).trans S.out;have C:Le w W:=(show Le w W4 from J.out).trans c;have M:NumL (λ_=>True) .u32 W (.slice A3 m3 c3) y.natAbs:=by rw[V.out];exact M
 obtain⟨g1,g2,d0,d1⟩:=qCS (b:=sg) (z:=y) C hB ah (qAO _) (qAF _ _ _) M ae.out.symm;have⟨H,a8,bc,U,a3,a4⟩:=hyd6 c C ah M g1 g2;clear g2 g1 M ah C c;go_wp2;exact bodyPost_ret (v:= .agg #[.bool sg,.slice A3 m3 c3]) (by simp[results,Try.results67,go_sem,d0,d1]) rfl ⟨_,rfl,a3.out,a4.out⟩
theorem qID:qA8 Try.prog 67:=λ_ _=>by kernel_rfl
theorem qKR (r:Rat) (d Bd:Nat) (td:TypeId) (vd:Value) (w:World) (kd:w.heap[Bd]? =some (.cells #[vd] td)) (hd:NumL (λ_=>True) .u32 w vd d) (hsr:Rsz r 10000000) (hsd:(dg d).length <=10000000) (hdv:r.den∣d) (hd0:d≠0):
  ElOk Try.prog (ratK .u32) intK (λc=> .ok (qBQ d c)) 67 #[] #[.pointer (some ⟨Bd,0,none⟩)] w r:=by
 rintro l ⟨s,A,n,c,B,m,e,rfl,i⟩;refine(qKQ r d Bd td _ vd w kd hd i hsr hsd hdv hd0).mono ?_;rintro e k ⟨o,rfl,b,f,j,g,rfl,h⟩;exact⟨b,.inl ⟨_,_,rfl,rfl,f,j,g,rfl,h⟩⟩
theorem qHQ (base MS:Nat) (v:Value) (xs:List Rat) (w:World) (hv:RowE (ratK .u32) 57 base w v xs) (hl:xs.length<=66) (hs:∀r∈xs,Rsz r MS) (hMS1:1<=MS) (hMS2:70*MS<=9000000):
  Calls Try.prog 35 #[v] w λe w'=>∃v',e= .returned v'/\Le w w'/\RowE intK 84 w.heap.size w' v' (qAG xs):=by
 obtain⟨A,c,rfl⟩:=hv.slice;obtain⟨n,hn⟩:∃n,xs.length=n:=⟨_,rfl⟩;rw[hn]at hl hv ⊢;obtain⟨W0,bs,ab,k0⟩:=enew w (.cells #[.int .u32 1] 94)
 have N:NumL (λ_=>True) .u32 W0 (.slice (some ⟨w.heap.size,0,none⟩) 1 1) 1:=by
  rw[<-bs];exact qBX (L:=λ_=>True) (k:= .u32) (V:=w) (g:=1) (λ_ _=>trivial) (by omega) qCb _
 obtain⟨y0,cp⟩:∃b,w.heap.size=b:=⟨_,rfl⟩;rw[cp]at N;obtain⟨W1,bY,av,k1⟩:=enew W0 (.cells #[.slice (some ⟨y0,0,none⟩) 1 1] 55);obtain⟨m,cb⟩:∃b,W0.heap.size=b:=⟨_,rfl⟩;rw[cb]at k1;have ac:Below w.heap.size w W1:=ab.trans (av.mono ab.size);have an:=hv.le ac;have co:w.heap.size<=m:=by have:=ab.size;omega
 have bz:∀b,(Value.slice A n c).ownBlock =some b->b≠m:=λb hb e=>by have:=(hv.nib hb).2.1;omega
 have bu:NumL (λ_=>True) .u32 W1 (.slice (some ⟨y0,0,none⟩) 1 1) (denK xs 0):=N.le av;have bw:=λk (hk:k<=66)=>show(dg (denK xs k)).length <=1+66*MS from Nat.le_trans (qFV hs hMS1 k) (by have:=Nat.mul_le_mul_right MS hk;omega);have⟨dx,al,ba,cP,dz,cm,cQ,ct⟩:=hyd8 hv hn hs ab k0 N av k1;clear k1 av N k0 ab hs hn hv;have⟨aT,a0,b0,bv,aE⟩:=hyd5 ac an bz bu bw;clear bw bu bz an ac;go_enter Try.func35,Try.ntmps35;go_wp2_with (fail);clear bs bY;go_loopw [11] (λi wr=>∃(k:Nat) (G n0 c0:_),i= .int .i64 (k:Int)/\k<=n/\Hid (Below w.heap.size w wr)/\Hid (RowE (ratK .u32) 57 base wr (.slice A n c) xs)/\Hid (wr.heap[m]? =some (.cells #[.slice G n0 c0] 55))/\Hid (NumL (λ_=>True) .u32 wr (.slice G n0 c0) (denK xs k))) (λi _=>n - (intOf i).toNat)
 case atStart=>exact⟨0,some ⟨y0,0,none⟩,1,1,rfl,Nat.zero_le _,aT,a0,ct,bv⟩
 case round=>
  obtain⟨k,G,n0,c0,rfl,hk,hb,l,kg,S⟩:=hrel
  by_cases ck:k<n
  ·have aV:k<xs.length:=by rw[al.out];exact ck
   obtain⟨gx,cx,O,-,dv,-,-,cs,bC,hc⟩:=l.out.at aV;rw[al.out]at O;injection O with O e2 e3;subst O e3;clear e2;have a3:=ba.out _ (List.getElem_mem aV);have y:denK xs (k+1)=denK xs k*((xs.getD k 0).den / Nat.gcd (denK xs k) (xs.getD k 0).den):=rfl;have a4:xs.getD k 0=xs[k]:=by rw[List.getD_eq_getElem?_getD,List.getElem?_eq_getElem aV];rfl
   rw[a4]at y;generalize xs[k]=r9 at bC a4 a3 y;obtain⟨s6,A6,n6,c6,B6,m6,d6,rfl,aU⟩:=bC;obtain⟨_,_,_,_,e7,-,b3⟩:=aU.form
   have H:NumL (λ_=>True) .u32 wr (.slice B6 m6 d6) r9.den:=by
    injection e7 with e7;have e8:=congrArg (λa=>a[2]!) e7;change Value.slice B6 m6 d6=_ at e8;rw[e8];exact b3
   clear e7 b3;have aq:(dg r9.den).length <=MS:=a3.2;have o:=qDw (denK xs k) r9;obtain⟨D,hD⟩:∃D,denK xs k=D:=⟨_,rfl⟩;obtain⟨E,hE⟩:∃D,r9.den=D:=⟨_,rfl⟩;have aO:=aE.out k (by omega);have J:=S.out;rw[hD]at y o aO J;rw[hE]at y o H aq;obtain⟨F,hF⟩:∃F,Nat.gcd D E=F:=⟨_,rfl⟩
   have aP:F<=E:=by
    rw[<-hF];exact Nat.le_of_dvd (by rw[<-hE];exact qA3 r9) (Nat.gcd_dvd_right _ _)
   have bq:(dg F).length <=MS:=Nat.le_trans (qAH aP) aq;rw[hF]at y o;obtain⟨q,hq⟩:∃q,E / F=q:=⟨_,rfl⟩;have b9:(dg q).length <=MS:=by rw[<-hq];exact Nat.le_trans (qDO _ _) aq
   rw[hq]at y;obtain⟨W3,bZ,B,k3⟩:=enew wr (.cells #[.bool s6,.slice A6 n6 c6,.slice B6 m6 d6] 57);obtain⟨bx,cc⟩:∃b,wr.heap.size=b:=⟨_,rfl⟩;rw[cc]at k3;have aC:Below w.heap.size w W3:=hb.out.trans (B.mono hb.out.size);have a5:=(B.block _ (gsl kg.out)).trans kg.out;have ao:=l.out.le B;have ag:=H.le B;have aF:=J.le B;have x0:wr.cell? ⟨gx,k*3,none⟩=some (.bool s6):=hc 0 _ rfl;have x1:wr.cell? ⟨gx,k*3+1,none⟩=some (.slice A6 n6 c6):=hc 1 _ rfl;have x2:wr.cell? ⟨gx,k*3+2,none⟩=some (.slice B6 m6 d6):=hc 2 _ rfl;have t2:W3.cell? ⟨bx,2,none⟩=some (.slice B6 m6 d6):=cell_of_row W3 bx 2 _ _ _ k3;have q0:W3.cell? ⟨m,0,none⟩=some (.slice G n0 c0):=cell_of_row W3 m 0 _ _ _ a5;have l1:=gsl k3;have l2:=gsl a5;have aB:(dg F).length <=10000000:=by omega
   have aA:(dg E).length <=10000000:=by omega
   have a8:(dg D).length <=10000000:=by omega
   have j1:(k:Int)<(n:Int):=by omega
   have j2:(0:Int)<=(k:Int):=by omega
   have bo:F≠0:=by omega
   have⟨aS,aZ,cu,b2,du,da,b6,dc⟩:=hyd8 hb l kg S hc a3 y a4;have⟨cS,cR,d0,ad,bK,a1,ce,cd⟩:=hyd8 aU B k3 aC a5 ao J H;have b1:=hyd1 o;clear o H J ao a5 aC k3 B aU a4 y a3 hc S kg l hb;have⟨cL,cM,cN,ds,bW,bX,cn,bA⟩:=hyd8 aO aP bq hD hE hF hq b9;have⟨I,ah,aQ,aa,Z,bp,db,bL⟩:=hyd8 ag aF aB aA a8 bo aq t2;have c3:=hyd1 q0;clear q0 t2 aq bo a8 aA aB aF ag b9 hq hF hE hD bq aP aO;go_wp2_with (fail);clear bZ;refine qAV (R:=leRel) 12 [some 16,some 17,some 18,some 19,some 20,some 21,some 22,some 15,some 23,some 24,some 6,some 7] [[],[0],[],[],[3],[2,4],[1,5],[6],[7],[7],[8],[9]]
    [.eq (.pointer (some ⟨bx,2,none⟩)),.eq (.slice B6 m6 d6),.eq (.slice G n0 c0),.eq (.pointer (some ⟨bx,2,none⟩)),.eq (.slice B6 m6 d6),MPred.num (λ_=>True) .u32 (F),MPred.nn q (E%F),MPred.nn q (E%F),MPred.num (λ_=>True) .u32 q,MPred.num (λ_=>True) .u32 (E%F),MPred.num (λ_=>True) .u32 q,MPred.num (λ_=>True) .u32 (E%F)] (λ_ _=>False) (by kernel_rfl) (by kernel_rfl) (by kernel_rfl) (by kernel_rfl) (by kernel_rfl) ?_ (λ_ _ _ _ h=>h.elim) ?_
   ·simp only[List.take_succ_cons,List.take_zero];refine sMc rfl ?_ (sMc rfl ?_ (sMc rfl ?_ (sMc rfl ?_ (sMc rfl ?_ (sMc rfl ?_ (sMc rfl ?_ (sMc rfl ?_ (sMc rfl ?_ (sMc rfl ?_ (sMc rfl ?_ (sMc rfl ?_ (qA2))))))))))))
    ·intro s W f j Q hK z;simp only[fA]at hK ⊢;go_wp2;exact hK _ _ lrR rfl
    ·intro s W f j Q hK z;obtain⟨d,-⟩:=j;change _=_ at d;have t0:=(Below.cell f (p:=⟨bx,2,none⟩) l1).trans bL.out;simp only[fA,d]at hK ⊢;go_wp2;exact hK _ _ lrR rfl
    ·intro s W f j Q hK z;have t0:=(Below.cell f (p:=⟨m,0,none⟩) l2).trans c3.out;simp only[fA]at hK ⊢;go_wp2;exact hK _ _ lrR rfl
    ·intro s W f j Q hK z;simp only[fA]at hK ⊢;go_wp2;exact hK _ _ lrR rfl
    ·intro s W f j Q hK z;obtain⟨d,-⟩:=j;change _=_ at d;have t0:=(Below.cell f (p:=⟨bx,2,none⟩) l1).trans bL.out;simp only[fA,d]at hK ⊢;go_wp2;exact hK _ _ lrR rfl
    ·intro s W f j Q hK z;obtain⟨d,O,-⟩:=j;change _=_ at d O;simp only[fA,d,O]at hK ⊢;have kc:=qDL (λ_=>True) D E _ _ W (Up.any _) (ah.out.le f) (I.out.le f) Z.out aa.out;rw[bX.out]at kc;have bc:=hyd1 kc;clear kc;go_wp2_with (fail);go_at_call 48;refine bc.out.mono ?_;rintro e w' ⟨v',rfl,y1,y2⟩;have⟨bg,bh⟩:=hyd2 y1 y2;clear y2 y1;go_wp2;exact hK _ _ bg.out bh.out
    ·intro s W f j Q hK z;obtain⟨d,O,-⟩:=j;change _=_ at d;replace O:NumL (λ_=>True) .u32 W (s 5) (F):=O;obtain⟨A9,c9,q9⟩:=O.slice;rw[q9]at O;simp only[fA,d,q9]at hK ⊢;have kc:=qD6 (λ_=>True) E F _ _ W (Up.any _) (I.out.le f) O aa.out aQ.out bp.out;rw[cn.out]at kc;have bc:=hyd1 kc;clear kc;go_wp2_with (fail);go_at_call 63;refine bc.out.mono ?_;rintro e w' ⟨X,Y,rfl,y1,y2,y3⟩;have⟨bg,bh,cF⟩:=hyd3 y1 y2 y3;clear y3 y2 y1;go_wp2;exact hK _ _ bg.out ⟨_,_,rfl,bh.out,cF.out⟩
    ·intro s W f j Q hK z;obtain⟨d,-⟩:=j;replace d:∃X Y,(s 6)= .tuple #[X,Y]/\NumL (λ_=>True) .u32 W X q/\NumL (λ_=>True) .u32 W Y (E%F):=d;obtain⟨X,Y,q9,h1,h2⟩:=d;simp only[fA,q9]at hK ⊢;go_wp2;exact hK _ _ lrR ⟨_,_,rfl,h1,h2⟩
    ·intro s W f j Q hK z;obtain⟨d,-⟩:=j;replace d:∃X Y,(s 7)= .tuple #[X,Y]/\NumL (λ_=>True) .u32 W X q/\NumL (λ_=>True) .u32 W Y (E%F):=d;obtain⟨X,Y,q9,h1,h2⟩:=d;simp only[fA,q9]at hK ⊢;go_wp2;exact hK _ _ lrR h1
    ·intro s W f j Q hK z;obtain⟨d,-⟩:=j;replace d:∃X Y,(s 7)= .tuple #[X,Y]/\NumL (λ_=>True) .u32 W X q/\NumL (λ_=>True) .u32 W Y (E%F):=d;obtain⟨X,Y,q9,h1,h2⟩:=d;simp only[fA,q9]at hK ⊢;go_wp2;exact hK _ _ lrR h2
    ·intro s W f j Q hK z;obtain⟨d,-⟩:=j;replace d:NumL (λ_=>True) .u32 W (s 8) q:=d;simp only[fA]at hK ⊢;go_wp2;exact hK _ _ lrR d
    ·intro s W f j Q hK z;obtain⟨d,-⟩:=j;replace d:NumL (λ_=>True) .u32 W (s 9) (E%F):=d;simp only[fA]at hK ⊢;go_wp2;exact hK _ _ lrR d
   intro s W f j Q' br _;have f6:NumL (λ_=>True) .u32 W (s 10) q:=j 10 (by decide);obtain⟨A7,c7,q7⟩:=f6.slice;rw[q7]at f6;simp only[List.drop_succ_cons,List.drop_zero];rw[show List.range 12=[0,1,2,3,4,5,6,7,8,9,10,11]from rfl];simp only[fA,q7];clear j;clear q7;have⟨aN,aR⟩:=hyd2 f6 f;clear f f6;go_wp2;refine br _ _ ?_;clear br;have f6:=aN.out;have f:=aR.out;clear aN aR;have aD:Below w.heap.size w W:=ad.out.trans (f.mono ad.out.size);have be:=(f.block _ l2).trans bK.out;have ap:=a1.out.le f;have q0:W.cell? ⟨m,0,none⟩=some (.slice G n0 c0):=cell_of_row W m 0 _ _ _ be;have kt:=qBO (λ_=>True) D q _ _ W (Up.any _) (ah.out.le f) f6 (Nat.le_trans Z.out (by decide)) (Nat.le_trans bA.out (by omega));rw[<-b6.out]at kt;have⟨af,aI,a2,cz,aN,aR⟩:=hyd6 aD be ap kt f6 f;clear f f6 kt ap be aD;go_wp2_with (fail);go_at_call 64;refine cz.out.mono ?_;rintro e W4 ⟨v4,rfl,t,am⟩;obtain⟨A4,c4,rfl⟩:=am.slice;obtain⟨P,z⟩:∃P,(dg (denK xs (k+1))).length =P:=⟨_,rfl⟩;rw[z]at am ⊢;have ae:Below w.heap.size w W4:=af.out.trans (t.mono af.out.size);have U:=(t.block _ (gsl aI.out)).trans aI.out;have C:=a2.out.le t;have t2:W4.cell? ⟨m,0,none⟩=some (.slice G n0 c0):=cell_of_row W4 m 0 _ _ _ U;have f0:=fz0 U 0;have nb:=nib1 U (qAF _ _ _);have ay:Kp .u32 W4 (W4.setCell ⟨m,0,none⟩ (.slice A4 P c4)):=(Kp.refl W4).set nb (qAF _ _ _)
   have r1:Below w.heap.size w (W4.setCell ⟨m,0,none⟩ (.slice A4 P c4)):=Below.setCell ae (p:=⟨m,0,none⟩) co _;have r2:RowE (ratK .u32) 57 base (W4.setCell ⟨m,0,none⟩ (.slice A4 P c4)) (.slice (some ⟨gx,0,none⟩) n c) xs:=C.keep ay λb hb=>Below.heap_setCell _ ⟨m,0,none⟩ _ b (b0.out b hb);have r3:(W4.setCell ⟨m,0,none⟩ (.slice A4 P c4)).heap[m]? =some (.cells #[.slice A4 P c4] 55):=qC2 U 0 _;have r4:=am.kp ay;have⟨ch,cX,dt,ca,df,bT,d1,cW⟩:=hyd8 t am z ae U C nb ay;have⟨c8,cA,cB,cC⟩:=hyd4 r1 r2 r3 r4;clear r4 r3 r2 r1 ay nb C U ae z am t;go_wp2;go_roundw
   case rel=>exact⟨k+1,_,_,_,by go_num,by omega,c8,cA,cB,cC⟩
   case measure=>simp[intOf];omega
  ·obtain rfl:k=n:=by omega
   have j1:¬(k:Int)<(k:Int):=by omega
   have aw:denK xs k=denI xs:=by unfold denI;rw[al.out]
   have M:=S.out;rw[aw]at M;have ax:=aE.out k (by omega);have o:=qE4 xs k;rw[aw]at ax o;have ai:(dg (denI xs)).length <=10000000:=by omega
   have az:=qKL (λr=> .ok (qBQ (denI xs) r)) 67 #[] #[.pointer (some ⟨m,0,none⟩)] _ xs wr l.out.seq (by rw[al.out];omega) qID λW hW x hx=>
    qKR x (denI xs) m 55 (.slice G n0 c0) W ((hW.block _ (gsl kg.out)).trans kg.out) (M.le hW) (qA0 (ba.out x hx) (by omega)) ai (qFr hx) (by omega)
   have b4:mapE (λr:Rat=>(.ok (qBQ (denI xs) r):Except Int Int)) xs= .ok (xs.map (qBQ (denI xs))):=qC6 (g:=qBQ (denI xs)) λx _=>rfl;rw[b4]at az;obtain⟨zs,T⟩:∃zs,xs.map (qBQ (denI xs))=zs:=⟨_,rfl⟩;have cq:zs.length<=1000000:=by rw[<-T,List.length_map,al.out];omega
   have bH:∀x∈zs,Isz x 10000000:=by
    intro x hx;rw[<-T,List.mem_map]at hx;obtain⟨r,hr,rfl⟩:=hx;exact(qFA (ba.out r hr) ax).up (by omega)
   have b7:qAG xs=qA5 zs:=by unfold qAG;rw[T]
   rw[T]at az;clear b4;have⟨aS,aZ,cu,b2,cT,cf,cU,cg⟩:=hyd8 hb l kg S aw M ax ai;have⟨b5,b8,b1,dd,bI⟩:=hyd5 az b7 o T bH;clear bH T o b7 az ai ax M aw S kg l hb;go_wp2_with (fail);go_at_call 66;refine b5.out.mono ?_;intro e W5 hE;obtain⟨v5,rfl,aj,aW⟩:=hE.ok;have bD:Le w W5:=(show Below w.heap.size w wr from aS.out.out).trans (aj.mono aS.out.out.size);have kp:=qDh _ v5 zs W5 aW cq bI.out;have⟨bW,ci,cY,aG,cw⟩:=hyd5 hE aj aW bD kp;clear kp bD aW aj hE;go_wp2_with (fail);go_at_call 65;refine cw.out.mono ?_;rintro e W6 ⟨v6,rfl,ak,aX⟩;have bE:=aG.out.trans ak;have aY:=aX.base (base':=w.heap.size) aG.out.size;rw[<-b8.out]at aY;have⟨cj,cZ,bF,bB⟩:=hyd4 ak aX bE aY;clear aY bE aX ak;go_wp2;go_ret;exact⟨_,rfl,bF.out,bB.out⟩
theorem qLN (base:Nat) (v:Value) (xs:List Rat) (w:World) (hv:RowE (ratK .u32) 57 base w v xs) (hl:xs.length<=66) (hs:∀r∈xs,Rsz r 40):
  Calls Try.prog 35 #[v] w λe w'=>∃v',e= .returned v'/\Le w w'/\RowE intK 84 w.heap.size w' v' (qAG xs):=
 qHQ base 40 v xs w hv hl hs (by decide) (by decide)
end Go.Proofs.Ytcoajjdhkhgfdaa
