/- Roots, program side: chain's function, sign, high, low. Polynomials, the reference: Trim, coefficient, PlusPoly. Polynomials, the reference: InPoly, OutPoly. .. -/
import Derived.Test.YtenjpccpldajoaaGreatDoorPk31
namespace Go.Proofs.YtenjpccpldajoaaGreatDoor
set_option maxRecDepth 100000
set_option maxHeartbeats 1000000
open Go.RowKit Go.Shelf
set_option linter.unusedVariables false
set_option linter.unusedSimpArgs false
theorem qGw {z:Int} {n:Nat} (h:(dg z.natAbs).length =n):(0<n↔z≠0):=by
 rw[←h,dg_length_pos];omega
theorem qJm {L:Nat→Prop} {k:IntKind} {w:World} {A:Option Addr} {n c x:Nat} (h:NumL L k w (.slice A n c) x):(dg x).length =n:=by
 obtain⟨_,_,e,-⟩:=h;injection e with _ e _;exact e.symm
theorem qMt (z:Int) (v:Value) (w:World) (h:IntL w v z):Calls Tryz.prog 135 #[v] w fun e w'=>∃v',e= .returned v'∧Le w w'∧IntL w' v' (-z):=by
 obtain⟨A1,n1,c1,rfl,hn⟩:=h;obtain⟨s1,hs1⟩:∃s,decide (z<0)=s:=⟨_,rfl⟩;rw[hs1];have hpos:=qGw (qJm hn);obtain⟨W1,hW1,hb1,k1⟩:=enew w (.cells #[.bool s1,.slice A1 n1 c1] 156);obtain⟨W2,hW2,hb2,k2⟩:=enew W1 (.cells #[.bool false,.slice none 0 0] 156);have k12:=(hb2.block _ (gsl k1)).trans k1;have hle:Le w W2:=hb1.trans (hb2.mono hb1.size);have hn2:=hn.le hle;have hB:w.heap.size≤W1.heap.size:=hb1.size;obtain⟨x0,hx0⟩:∃x,w.heap.size=x:=⟨_,rfl⟩;obtain⟨x1,hx1⟩:∃x,W1.heap.size=x:=⟨_,rfl⟩;rw[hx1]at hB k2;rw[hx0]at k12;have p0:W2.cell? ⟨x0,0,none⟩=some (.bool s1):=cell_of_row W2 x0 0 _ _ _ k12;have p1:W2.cell? ⟨x0,1,none⟩=some (.slice A1 n1 c1):=cell_of_row W2 x0 1 _ _ _ k12;have q0:W2.cell? ⟨x1,0,none⟩=some (.bool false):=cell_of_row W2 x1 0 _ _ _ k2;have q1:W2.cell? ⟨x1,1,none⟩=some (.slice none 0 0):=cell_of_row W2 x1 1 _ _ _ k2;have⟨f0,f1⟩:=frz2 k2;have hfin:=fun b h=>qCn (b:=b) (z:= -z) hle hB k2 (qAV _) (qAK _ _ _) (by rw[Int.natAbs_neg];exact hn2) h
 cases s1 with
 | true=>
  have hz:z<0:=by simpa using hs1
  obtain⟨g1,g2,d0,d1⟩:=hfin false (by rw[decide_eq_false (by omega)]);have⟨hn',hpos',hb1',hb2',k1',k2',k12',hle'⟩:=hyd8 hn hpos hb1 hb2 k1 k2 k12 hle;have⟨hn2',hfin',g1',g2',d0',d1',hs1',hz'⟩:=hyd8 hn2 hfin g1 g2 d0 d1 hs1 hz;clear hz hs1 d1 d0 g2 g1 hfin hn2 hle k12 k2 k1 hb2 hb1 hpos hn;go_enter Tryz.func135,Tryz.ntmps135;go_wp2;have d0:=d0'.out;have d1:=d1'.out;exact bodyPost_ret (v:= .agg #[.bool false,.slice A1 n1 c1]) (by simp[results,Tryz.results135,go_sem,d0,d1]) rfl ⟨_,rfl,g1'.out,g2'.out⟩
 | false=>
  have hz:¬z<0:=by simpa using hs1
  obtain⟨sg,hsg⟩:∃s,decide (0<n1)=s:=⟨_,rfl⟩;have hsi:decide ((0:Int)<(n1:Int))=sg:=by rw[←hsg];exact decide_eq_decide.2 (by omega)
  obtain⟨g1,g2,d0,d1⟩:=hfin sg (by rw[←hsg];exact decide_eq_decide.2 (by rw[hpos];omega));have⟨hn',hpos',hb1',hb2',k1',k2',k12',hle'⟩:=hyd8 hn hpos hb1 hb2 k1 k2 k12 hle;have⟨hn2',hfin',g1',g2',d0',d1',hs1',hz'⟩:=hyd8 hn2 hfin g1 g2 d0 d1 hs1 hz;clear hz hs1 d1 d0 g2 g1 hfin hn2 hle k12 k2 k1 hb2 hb1 hpos hn;go_enter Tryz.func135,Tryz.ntmps135;go_wp2;have d0:=d0'.out;have d1:=d1'.out;exact bodyPost_ret (v:= .agg #[.bool sg,.slice A1 n1 c1]) (by simp[results,Tryz.results135,go_sem,d0,d1]) rfl ⟨_,rfl,g1'.out,g2'.out⟩
theorem qJn:qAF Tryz.prog 135:=fun _ _=>by kernel_rfl
theorem qMu (w:World) (z:Int):ElOk Tryz.prog intK intK (fun c=> .ok (-c)) 135 #[] #[] w z:=by
 rintro cs ⟨A1,n1,c1,rfl,hx⟩;refine(qMt z _ w ⟨A1,n1,c1,rfl,hx⟩).mono ?_;rintro e W' ⟨v',rfl,hle,A2,n2,c2,rfl,hv⟩;exact⟨hle,.inl ⟨_,_,rfl,rfl,A2,n2,c2,rfl,hv⟩⟩
theorem qJo (z:Int) (v:Value) (w:World) (h:IntL w v z):Calls Tryz.prog 136 #[v] w fun e w'=>e= .returned (.int .i64 z.sign)∧Le w w':=by
 obtain⟨A1,n1,c1,rfl,hn⟩:=h;obtain⟨s1,hs1⟩:∃s,decide (z<0)=s:=⟨_,rfl⟩;rw[hs1];have hpos:=qGw (qJm hn);obtain⟨W1,hW1,hb1,k1⟩:=enew w (.cells #[.bool s1,.slice A1 n1 c1] 156);obtain⟨x0,hx0⟩:∃x,w.heap.size=x:=⟨_,rfl⟩;rw[hx0]at k1;have p0:W1.cell? ⟨x0,0,none⟩=some (.bool s1):=cell_of_row W1 x0 0 _ _ _ k1;have p1:W1.cell? ⟨x0,1,none⟩=some (.slice A1 n1 c1):=cell_of_row W1 x0 1 _ _ _ k1
 by_cases h0:n1=0
 ·have hz:z=0:=by have:=hpos;omega
  have hzs:z.sign=0:=by rw[hz];rfl
  rw[hzs];have j1:((n1:Int)==0)=true:=by simpa using h0
  subst h0;have⟨hn',hpos',hb1',k1',hs1',hz',hzs'⟩:=hyd7 hn hpos hb1 k1 hs1 hz hzs;clear hzs hz hs1 k1 hb1 hpos hn;go_enter Tryz.func136,Tryz.ntmps136;go_wp2;go_ret;exact⟨rfl,hb1'.out⟩
 ·have hz:z≠0:=by have:=hpos;omega
  have j1:((n1:Int)==0)=false:=by simpa using h0
  cases s1 with
  | true=>
   have hzs:z.sign= -1:=Int.sign_eq_neg_one_of_neg (by simpa using hs1);rw[hzs];have⟨hn',hpos',hb1',k1',hs1',hz',hzs'⟩:=hyd7 hn hpos hb1 k1 hs1 hz hzs;clear hzs hz hs1 k1 hb1 hpos hn;go_enter Tryz.func136,Tryz.ntmps136;go_wp2;go_ret;exact⟨rfl,hb1'.out⟩
  | false=>
   have hzn:¬z<0:=by simpa using hs1
   have hzs:z.sign=1:=Int.sign_eq_one_of_pos (by omega);clear hzn;rw[hzs];have⟨hn',hpos',hb1',k1',hs1',hz',hzs'⟩:=hyd7 hn hpos hb1 k1 hs1 hz hzs;clear hzs hz hs1 k1 hb1 hpos hn;go_enter Tryz.func136,Tryz.ntmps136;go_wp2;go_ret;exact⟨rfl,hb1'.out⟩
def qDp (p:List Int):Int:=(qAH p).sign
def lowS (p:List Int):Int:=if p.length%2=0 then - qDp p else qDp p
theorem qGN (z:Int): -1≤z.sign∧z.sign≤1:=by
 rcases Int.lt_trichotomy z 0 with h|h|h
 ·rw[Int.sign_eq_neg_one_of_neg h];decide
 ·rw[h];decide
 ·rw[Int.sign_eq_one_of_pos h];decide
theorem qKp (base:Nat) (v:Value) (p:List Int) (w:World) (hv:RowE intK 156 base w v p) (h0:p.length≠0) (hl:p.length≤1000):
  Calls Tryz.prog 93 #[v] w fun e w'=>e= .returned (.int .i64 (qDp p))∧Le w w':=by
 obtain⟨n,hn⟩:∃n,p.length=n:=⟨_,rfl⟩;obtain⟨t,ht⟩:∃t,n=t+1:=⟨n - 1,by omega⟩;have htx:t<p.length:=by omega
 obtain⟨g,c,rfl,-,hgl,-,-,cs,hrd,hc⟩:=hv.at htx;have hlast:p[t]=qAH p:=by unfold qAH;rw[List.getD_eq_getElem?_getD,show p.length - 1=t by omega,List.getElem?_eq_getElem htx];rfl
 rw[hlast]at hrd;rw[hn]at hl hv ⊢;obtain⟨A1,n1,c1,rfl,hx⟩:=hrd;have x0:w.cell? ⟨g,t*2,none⟩=some (.bool (decide (qAH p<0))):=hc 0 _ rfl;have x1:w.cell? ⟨g,t*2+1,none⟩=some (.slice A1 n1 c1):=hc 1 _ rfl;have kc:=qJo (qAH p) (.agg #[.bool (decide (qAH p<0)),.slice A1 n1 c1]) w ⟨A1,n1,c1,rfl,hx⟩;obtain⟨sg,hsg⟩:∃s,decide (qAH p<0)=s:=⟨_,rfl⟩;rw[hsg]at kc x0;obtain⟨r,hr⟩:∃r,qDp p=r:=⟨_,rfl⟩;have hr2:(qAH p).sign =r:=hr;rw[hr2]at kc;rw[hr];have j1:(n:Int) - 1=(t:Int):=by omega
 have j2:(t:Int)<(n:Int):=by omega
 have j3:(0:Int)≤(t:Int):=by omega
 have⟨hv',hc',hx',kc',hn',ht',hlast',hsg'⟩:=hyd8 hv hc hx kc hn ht hlast hsg;have⟨hr',hr2'⟩:=hyd2 hr hr2;clear hr2 hr hsg hlast ht hn kc hx hc hv;go_enter Tryz.func93,Tryz.ntmps93;go_wp2_with (fail);go_at_call 136;refine kc'.out.mono ?_;rintro e W ⟨rfl,hle⟩;have hle':=hyd1 hle;clear hle;go_wp2;go_ret;exact⟨rfl,hle'.out⟩
theorem qPW (base:Nat) (v:Value) (p:List Int) (w:World) (hv:RowE intK 156 base w v p) (h0:p.length≠0) (hl:p.length≤1000):
  Calls Tryz.prog 92 #[v] w fun e w'=>e= .returned (.int .i64 (lowS p))∧Le w w':=by
 have kc:=qKp base v p w hv h0 hl;obtain⟨n,hn⟩:∃n,p.length=n:=⟨_,rfl⟩;obtain⟨A,c,rfl⟩:=hv.slice;have hb:=qGN (qAH p);obtain⟨r,hr⟩:∃r,qDp p=r:=⟨_,rfl⟩;have hr2:(qAH p).sign =r:=hr;rw[hr2]at hb;rw[hr]at kc;unfold lowS;rw[hr];rw[hn]at hl hv kc ⊢;obtain⟨m,hm⟩:∃m,n%2=m:=⟨_,rfl⟩;have hmi:(n:Int)%2=(m:Int):=by omega
 have hmt:(n:Int).tmod 2=(m:Int):=by rw[Int.tmod_eq_emod_of_nonneg (by omega)];exact hmi
 rw[hm]
 by_cases h2:m=0
 ·subst h2;rw[if_pos rfl];have⟨hv',hr',hr2',kc',hn',hm'⟩:=hyd6 hv hr hr2 kc hn hm;clear hm hn kc hr2 hr hv;go_enter Tryz.func92,Tryz.ntmps92;go_wp2_with (fail);go_at_call 93;refine kc'.out.mono ?_;rintro e W ⟨rfl,hle⟩;have hle':=hyd1 hle;clear hle;go_wp2;go_ret;exact⟨rfl,hle'.out⟩
 ·rw[if_neg h2];have j1:((m:Int)==0)=false:=by simpa using h2
  have⟨hv',hr',hr2',kc',hn',hm'⟩:=hyd6 hv hr hr2 kc hn hm;clear hm hn kc hr2 hr hv;go_enter Tryz.func92,Tryz.ntmps92;go_wp2_with (fail);go_at_call 93;refine kc'.out.mono ?_;rintro e W ⟨rfl,hle⟩;have hle':=hyd1 hle;clear hle;go_wp2;go_ret;exact⟨rfl,hle'.out⟩
def tq (X Y:List Rat) (i:Nat):Nat→Rat
 | 0=>0
 | k+1=>tq X Y i k+X.getD k 0*Y.getD (i - k) 0
theorem qBe {l:List Rat} {k:Nat} (h:¬k<l.length):l.getD k 0=0:=by rw[List.getD_eq_getElem?_getD,List.getElem?_eq_none (by omega)];rfl
def qFp (x y:List FracA):Bool:=decide (x.length=y.length)&&(x.zip y).all fun p=>qBG p.1 p.2
def qDM (l:List FracA) (t m:Nat):Bool:=(decide (t<l.length)&& !decide (l.length=66))||l.any fun x=>qAo x m
theorem ArrL.everywhere {α:Type} {L:Nat→Prop} {f:α→Value} {w:World} {v:Value} {xs:List α} (h:ArrL L f w v xs):ArrL (fun _=>True) f w v xs:=by
 obtain⟨A,c,e,h1,h2,h3,h4⟩:=h;refine⟨A,c,e,h1,h2,h3,fun h0=>?_⟩;obtain⟨b,off,e1,-,e2⟩:=h4 h0;exact⟨b,off,e1,trivial,e2⟩
theorem SeqE.answers {L:Nat→Prop} {w:World} {v:Value} {rs:List Rat} (h:SeqE (frK L) w v rs):SeqE inK w v (rs.map qAE):=by
 obtain⟨A,c,rfl,h1,h2,h3,h4⟩:=h;refine⟨A,c,by rw[List.length_map],by rw[List.length_map];exact h1,h2,h3,fun h0=>?_⟩;rw[List.length_map]at h0;obtain⟨b,off,e1,e2,hj⟩:=h4 h0;refine⟨b,off,e1,e2,fun j hl=>?_⟩;rw[List.length_map]at hl;obtain⟨cs,hrd,hc⟩:=hj j hl;refine⟨cs,?_,hc⟩;rw[List.getElem_map];obtain⟨s,A1,n,c1,t,B,m,d,rfl,hF⟩:=hrd;have hA:=hF.isA;obtain⟨A2,c2,B2,d2,e3,g1,g2⟩:=hA;injection e3 with e3;have q0:=congrArg (fun a=>a[0]!) e3;have q1:=congrArg (fun a=>a[1]!) e3;have q2:=congrArg (fun a=>a[2]!) e3;have q3:=congrArg (fun a=>a[3]!) e3;change Value.bool s=_ at q0;change Value.slice A1 n c1=_ at q1;change Value.bool t=_ at q2;change Value.slice B m d=_ at q3;rw[q0,q1,q2,q3];exact⟨A2,c2,B2,d2,rfl,A2,c2,B2,d2,rfl,g1.everywhere,g2.everywhere⟩
theorem qIx (vx vy:Value) (X Y:List FracA) (w:World) (hx:SeqE inK w vx X) (hy:SeqE inK w vy Y) (hlx:X.length≤1000000):
  Calls Tryz.prog 26 #[vx,vy] w fun e w'=>e= .returned (.bool (qFp X Y))∧Le w w':=by
 obtain⟨AX,cX,rfl,-,-,-⟩:=hx.slice;obtain⟨AY,cY,rfl,a1,a2,-⟩:=hy.slice;unfold maxLen at a2;obtain⟨res,hres⟩:∃r,qFp X Y=r:=⟨_,rfl⟩;have hres0:=hres;unfold qFp at hres0;obtain⟨nX,hnX⟩:∃n,X.length=n:=⟨_,rfl⟩;obtain⟨nY,hnY⟩:∃n,Y.length=n:=⟨_,rfl⟩;rw[hres];rw[hnX]at hx hlx hres0 ⊢;rw[hnY]at hy a1 hres0 ⊢
 by_cases he:nX=nY
 ·rw[decide_eq_true he,Bool.true_and]at hres0;subst he;have hzl:(X.zip Y).length =nX:=by rw[List.length_zip,hnX,hnY,Nat.min_self]
  have⟨hx',hy',hres',hres0',hnX',hnY',hzl'⟩:=hyd7 hx hy hres hres0 hnX hnY hzl;clear hzl hnY hnX hres0 hres hy hx;go_enter Tryz.func26,Tryz.ntmps26;go_wp2_with (fail);go_loopw [5] (fun i wr=>∃k:Nat,i= .int .i64 (k:Int)∧k≤nX∧Hid (((X.zip Y).take k).all (fun p=>qBG p.1 p.2)=true)∧Hid (Below w.heap.size w wr)) (fun i _=>nX - (intOf i).toNat)
  case atStart=>exact⟨0,rfl,Nat.zero_le _,Lib.hid rfl,Lib.hid (Below.refl _ _)⟩
  case round=>
   obtain⟨k,rfl,hk,hall,hb⟩:=hrel
   by_cases hlt:k<nX
   ·have hkx:k<X.length:=by rw[hnX'.out];exact hlt
    have hky:k<Y.length:=by rw[hnY'.out];exact hlt
    have hkz:k<(X.zip Y).length :=by rw[hzl'.out];exact hlt
    obtain⟨bx,ox,cx,e1,hgx,cs,hrd,hc⟩:=(hx'.out.le hb.out).at hkx;rw[hnX'.out]at e1;injection e1 with e1 e2 e3;subst e1 e3;clear e2;obtain⟨b2,oy,cy,e1,hgy,cs2,hrd2,hc2⟩:=(hy'.out.le hb.out).at hky;rw[hnY'.out]at e1;injection e1 with e1 e2 e3;subst e1 e3;clear e2;have hzk:(X.zip Y)[k]=(X[k],Y[k]):=by rw[List.getElem_zip]
    have htk:(X.zip Y).take (k+1)=(X.zip Y).take k++[(X.zip Y)[k]]:=by rw[List.take_succ_eq_append_getElem hkz]
    have hmem:(X.zip Y)[k]∈X.zip Y:=List.getElem_mem hkz;rw[hzk]at htk hmem;clear hzk;generalize X[k]=x at hrd htk hmem;generalize Y[k]=y at hrd2 htk hmem;obtain⟨A1,c1,B1,d1,rfl,hxa⟩:=hrd;obtain⟨A2,c2,B2,d2,rfl,hya⟩:=hrd2;have x0:wr.cell? ⟨bx,ox+k*4,none⟩=some (.bool x.sn):=hc 0 _ rfl;have x1:wr.cell? ⟨bx,ox+k*4+1,none⟩=some (.slice A1 x.gn.length c1):=hc 1 _ rfl;have x2:wr.cell? ⟨bx,ox+k*4+2,none⟩=some (.bool x.sd):=hc 2 _ rfl;have x3:wr.cell? ⟨bx,ox+k*4+3,none⟩=some (.slice B1 x.gd.length d1):=hc 3 _ rfl;have y0:wr.cell? ⟨b2,oy+k*4,none⟩=some (.bool y.sn):=hc2 0 _ rfl;have y1:wr.cell? ⟨b2,oy+k*4+1,none⟩=some (.slice A2 y.gn.length c2):=hc2 1 _ rfl;have y2:wr.cell? ⟨b2,oy+k*4+2,none⟩=some (.bool y.sd):=hc2 2 _ rfl;have y3:wr.cell? ⟨b2,oy+k*4+3,none⟩=some (.slice B2 y.gd.length d2):=hc2 3 _ rfl;obtain⟨sm,hsm⟩:∃b,qBG x y=b:=⟨_,rfl⟩;have j1:(k:Int)<(nX:Int):=by omega
    have j2:(0:Int)≤(k:Int):=by omega
    have⟨hall',hb',hc',hc2',hxa',hya',htk',hmem'⟩:=hyd8 hall hb hc hc2 hxa hya htk hmem;have⟨hsm',x0',x1',x2'⟩:=hyd4 hsm x0 x1 x2;clear x2 x1 x0 hsm hmem htk hya hxa hc2 hc hb hall;have⟨x3',y0',y1',y2',y3'⟩:=hyd5 x3 y0 y1 y2 y3;clear y3 y2 y1 y0 x3;go_wp2_with (fail);refine qAM (R:=leRel) 10 [some 17,some 18,some 19,some 20,some 21,some 22,some 23,some 24,some 25,some 26] [[],[],[0,1],[2],[],[],[4,5],[6],[3,7],[8]]
     [.eq (.slice (some ⟨bx,ox,none⟩) nX cX),.eq (.int .i64 (k:Int)),.eq (.pointer (some ⟨bx,ox+k*4,none⟩)),.eq (.agg #[.bool x.sn,.slice A1 x.gn.length c1,.bool x.sd,.slice B1 x.gd.length d1]),.eq (.slice (some ⟨b2,oy,none⟩) nX cY),.eq (.int .i64 (k:Int)),.eq (.pointer (some ⟨b2,oy+k*4,none⟩)),.eq (.agg #[.bool y.sn,.slice A2 y.gn.length c2,.bool y.sd,.slice B2 y.gd.length d2]),.eq (.bool sm),.eq (.bool (!sm))] (fun _ _=>False) (by kernel_rfl) (by kernel_rfl) (by kernel_rfl) (by kernel_rfl) (by kernel_rfl) ?_ (fun _ _ _ _ h=>h.elim) ?_
    ·simp only[List.take_succ_cons,List.take_zero];refine sMc rfl ?_ (sMc rfl ?_ (sMc rfl ?_ (sMc rfl ?_ (sMc rfl ?_ (sMc rfl ?_ (sMc rfl ?_ (sMc rfl ?_ (sMc rfl ?_ (sMc rfl ?_ (qAR))))))))))
     ·intro xv W hR hf Q hK hP;simp only[fA]at hK ⊢;go_wp2;exact hK _ _ lrR rfl
     ·intro xv W hR hf Q hK hP;simp only[fA]at hK ⊢;go_wp2;exact hK _ _ lrR rfl
     ·intro xv W hR hf Q hK hP;obtain⟨e0,e1,-⟩:=hf;change _=_ at e0 e1;simp only[fA,e0,e1]at hK ⊢;go_wp2;exact hK _ _ lrR rfl
     ·intro xv W hR hf Q hK hP;obtain⟨e0,-⟩:=hf;change _=_ at e0;have t0:=(Below.cell hR (p:=⟨bx,ox+k*4,none⟩) hgx).trans x0'.out;have t1:=(Below.cell hR (p:=⟨bx,ox+k*4+1,none⟩) hgx).trans x1'.out;have t2:=(Below.cell hR (p:=⟨bx,ox+k*4+2,none⟩) hgx).trans x2'.out;have t3:=(Below.cell hR (p:=⟨bx,ox+k*4+3,none⟩) hgx).trans x3'.out;simp only[fA,e0]at hK ⊢;go_wp2;exact hK _ _ lrR rfl
     ·intro xv W hR hf Q hK hP;simp only[fA]at hK ⊢;go_wp2;exact hK _ _ lrR rfl
     ·intro xv W hR hf Q hK hP;simp only[fA]at hK ⊢;go_wp2;exact hK _ _ lrR rfl
     ·intro xv W hR hf Q hK hP;obtain⟨e0,e1,-⟩:=hf;change _=_ at e0 e1;simp only[fA,e0,e1]at hK ⊢;go_wp2;exact hK _ _ lrR rfl
     ·intro xv W hR hf Q hK hP;obtain⟨e0,-⟩:=hf;change _=_ at e0;have t0:=(Below.cell hR (p:=⟨b2,oy+k*4,none⟩) hgy).trans y0'.out;have t1:=(Below.cell hR (p:=⟨b2,oy+k*4+1,none⟩) hgy).trans y1'.out;have t2:=(Below.cell hR (p:=⟨b2,oy+k*4+2,none⟩) hgy).trans y2'.out;have t3:=(Below.cell hR (p:=⟨b2,oy+k*4+3,none⟩) hgy).trans y3'.out;simp only[fA,e0]at hK ⊢;go_wp2;exact hK _ _ lrR rfl
     ·intro xv W hR hf Q hK hP;obtain⟨e0,e1,-⟩:=hf;change _=_ at e0 e1;simp only[fA,e0,e1]at hK ⊢;have kc:=qDA (fun _=>True) (fun _=>True) x y _ _ W (hxa'.out.kp (Kp.of_le hR)) (hya'.out.kp (Kp.of_le hR));rw[hsm'.out]at kc;have kc':=hyd1 kc;clear kc;go_wp2_with (fail);go_at_call 51;refine kc'.out.mono ?_;rintro e w' ⟨rfl,y1⟩;have y1':=hyd1 y1;clear y1;go_wp2;exact hK _ _ y1'.out rfl
     ·intro xv W hR hf Q hK hP;obtain⟨e0,-⟩:=hf;change _=_ at e0;simp only[fA,e0]at hK ⊢;go_wp2;exact hK _ _ lrR rfl
    intro xv W hR hf Q' hQ1 _;have e9:=hf 9 (by decide);change _=_ at e9;simp only[List.drop_succ_cons,List.drop_zero];rw[show List.range 10=[0,1,2,3,4,5,6,7,8,9]from rfl];simp only[fA,e9];clear hf;clear e9;have hR':=hyd1 hR;clear hR;go_wp2;refine hQ1 _ _ ?_;clear hQ1;have hR:=hR'.out;clear hR';have hb9:Below w.heap.size w W:=(show Below w.heap.size w wr from hb'.out.out).trans (hR.mono hb'.out.out.size)
    cases sm with
    | true=>
     have r1:((X.zip Y).take (k+1)).all (fun p=>qBG p.1 p.2)=true:=by
      rw[htk'.out,List.all_append,hall'.out.out];simp[hsm'.out]
     have⟨r1',hb9',hR'⟩:=hyd3 r1 hb9 hR;clear hR hb9 r1;go_wp2;go_roundw
     case rel=>exact⟨k+1,by go_num,by omega,r1',hb9'⟩
     case measure=>simp[intOf];omega
    | false=>
     have r1:res=false:=by
      rw[←hres0'.out,Bool.eq_false_iff];intro h;rw[List.all_eq_true]at h;have:=h _ hmem'.out;change qBG x y=true at this;rw[hsm'.out]at this
      cases this
     have⟨hb9',hR'⟩:=hyd2 hb9 hR;clear hR hb9;subst r1;go_wp2;go_ret;exact⟨rfl,hb9'.out⟩
   ·obtain rfl:k=nX:=by omega
    have j1:¬(k:Int)<(k:Int):=by omega
    have r1:res=true:=by rw[←hres0'.out,←hall.out,←hzl'.out,List.take_length]
    have hb9:=hb.out;have⟨hall',hb',hb9'⟩:=hyd3 hall hb hb9;clear hb9 hb hall;subst r1;go_wp2;go_ret;exact⟨rfl,hb9'.out⟩
 ·rw[decide_eq_false he,Bool.false_and]at hres0;have j1:((nX:Int)==(nY:Int))=false:=by simpa using fun h=>he (by omega)
  have j2:¬(nX:Int)=(nY:Int):=by omega
  have⟨hx',hy',hres',hnX',hnY'⟩:=hyd5 hx hy hres hnX hnY;clear hnY hnX hres hy hx;subst hres0;go_enter Tryz.func26,Tryz.ntmps26;go_wp2;go_ret;exact⟨rfl,Le.refl _⟩
def qBs (l:List Rat):Rat:=l.getD (l.length - 1) 0
def qAk (l:List Rat):List Rat:=l.map fun r=>r / qBs l
end Go.Proofs.YtenjpccpldajoaaGreatDoor
