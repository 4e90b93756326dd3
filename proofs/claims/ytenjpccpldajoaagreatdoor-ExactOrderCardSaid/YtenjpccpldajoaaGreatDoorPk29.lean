/- Whole polynomials: left, its walk. (The region between --@ARM and --@END is printed by gen_poly.py.) -/
import Derived.Test.YtenjpccpldajoaaGreatDoorPk28
namespace Go.Proofs.YtenjpccpldajoaaGreatDoor
set_option maxRecDepth 100000
set_option maxHeartbeats 2000000
open Go.RowKit Go.Shelf
set_option linter.unusedVariables false
set_option linter.unusedSimpArgs false
structure LeftSt (w:World) (g n c:Nat) (vb:Value) (b:List Int) (bt bs:Nat) (ot os:Obj) (vT vS:Value) (T S:Int) (l:List Int) (W:World):Prop where
 below:Below w.heap.size w W
 row:RowE intK 156 w.heap.size W (.slice (some ⟨g,0,none⟩) n c) l
 b:RowE intK 156 0 W vb b
 kt:W.heap[bt]? =some ot
 ks:W.heap[bs]? =some os
 t:IntL W vT T
 s:IntL W vS S
theorem LeftSt.le {w:World} {g n c:Nat} {vb:Value} {b:List Int} {bt bs:Nat} {ot os:Obj} {vT vS:Value} {T S:Int} {l:List Int} {W V:World} (h:LeftSt w g n c vb b bt bs ot os vT vS T S l W) (hb:Le W V):LeftSt w g n c vb b bt bs ot os vT vS T S l V:=
 ⟨h.below.trans (hb.mono h.below.size),h.row.le hb,h.b.le hb,(hb.block _ (gsl h.kt)).trans h.kt,(hb.block _ (gsl h.ks)).trans h.ks,h.t.le hb,h.s.le hb⟩
theorem LeftSt.store {w:World} {g n c:Nat} {vb:Value} {b:List Int} {bt bs:Nat} {ot os:Obj} {vT vS:Value} {T S:Int} {l:List Int} {W:World} (h:LeftSt w g n c vb b bt bs ot os vT vS T S l W) (hg:w.heap.size≤g) (hB:∀q,vb.ownBlock=some q→q≠g) (ht:bt≠g) (hs:bs≠g) {j:Nat} (hj:j<l.length)
  {A:Option Addr} {a d:Nat} {z:Int} {sg:Bool} (hz:decide (z<0)=sg) (hr:NumL (fun _=>True) .u32 W (.slice A a d) z.natAbs):
  LeftSt w g n c vb b bt bs ot os vT vS T S (l.set j z) ((W.setCell ⟨g,j*2,none⟩ (.bool sg)).setCell ⟨g,j*2+1,none⟩ (.slice A a d))∧
   ∀q,q≠g→((W.setCell ⟨g,j*2,none⟩ (.bool sg)).setCell ⟨g,j*2+1,none⟩ (.slice A a d)).heap[q]? =W.heap[q]? :=by
 subst hz;have hst:=RowE.store h.row (i:=j) hj (cs:=[.bool (decide (z<0)),.slice A a d]) (y:=z) ⟨_,_,_,rfl,hr⟩;have ho:∀q,q≠g→(W.setCells g (j*2) [.bool (decide (z<0)),.slice A a d]).heap[q]? =W.heap[q]? :=fun q hq=>qCl hq _ _ _;exact⟨⟨qCm hg [.bool (decide (z<0)),.slice A a d] (j*2) _ _ h.below,hst.1,h.b.keep hst.2 fun q hq=>ho q (hB q hq),(ho _ ht).trans h.kt,(ho _ hs).trans h.ks,h.t.kp hst.2,h.s.kp hst.2⟩,ho⟩
theorem qJj:qAF Tryz.prog 143:=fun _ _=>by kernel_rfl
theorem qMq (S:Int) (A:Option Addr) (n c:Nat) (sg:Bool) (w:World) (hsg:decide (S<0)=sg) (hS:NumL (fun _=>True) .u32 w (.slice A n c) S.natAbs) (z:Int) (h1:Isz S 100000000) (h2:Isz z 100000000):
  ElOk Tryz.prog intK intK (fun c=> .ok (S*c)) 143 #[.agg #[.bool sg,.slice A n c]] #[] w z:=by
 subst hsg;rintro cs ⟨A1,n1,c1,rfl,hx⟩;refine(qDK S z _ _ w ⟨A,n,c,rfl,hS⟩ ⟨A1,n1,c1,rfl,hx⟩ h1 h2).mono ?_;rintro e W' ⟨v',rfl,hle,A2,n2,c2,rfl,hv⟩;exact⟨hle,.inl ⟨_,_,rfl,rfl,A2,n2,c2,rfl,hv⟩⟩
theorem qNt {a b:List Int} {sa sb:Bool} (ha:decide (qAH a<0)=sa) (hb:decide (qAH b<0)=sb) (h0:qAH a≠0):decide (topT a b<0)=(sa != sb):=by
 subst ha hb;unfold topT
 by_cases h1:qAH a<0<;>by_cases h2:qAH b<0
 ·rw[if_pos h2,decide_eq_true h1,decide_eq_true h2,decide_eq_false (by omega)];rfl
 ·rw[if_neg h2,decide_eq_true h1,decide_eq_false h2];rfl
 ·rw[if_pos h2,decide_eq_false h1,decide_eq_true h2,decide_eq_true (by omega)];rfl
 ·rw[if_neg h2,decide_eq_false h1,decide_eq_false h2];rfl
theorem qNu (a b:List Int):(topT a b).natAbs =(qAH a).natAbs :=by
 unfold topT
 split
 ·rw[Int.natAbs_neg]
 ·rfl
theorem IntL.num {w:World} {s:Bool} {A:Option Addr} {n c:Nat} {z:Int} (h:IntL w (.agg #[.bool s,.slice A n c]) z):NumL (fun _=>True) .u32 w (.slice A n c) z.natAbs∧decide (z<0)=s:=by
 obtain⟨A',n',c',e,h⟩:=h;injection e with e;have e1:=congrArg (fun a=>a[0]!) e;have e2:=congrArg (fun a=>a[1]!) e;change Value.bool s=Value.bool _ at e1;change Value.slice A n c=Value.slice A' n' c' at e2;injection e1 with e1;rw[e2];exact⟨h,e1.symm⟩
theorem qPc (w:World) (o:Obj):∃V,(w.alloc o).drew =V∧Below w.heap.size w V∧V.heap[w.heap.size]? =some o:=⟨_,rfl,(alc1 _ _).drew,heap_alloc_new _ _⟩
theorem qFR {b l:List Int} (h:¬b.length≤l.length):∀f,qBr b f l=l
 | 0=>rfl
 | f+1=>by unfold qBr;rw[if_neg h]
theorem qJk {b l:List Int} {f:Nat} (h:b.length≤l.length) (hb:b.length≠0) (hf:l.length≤f):∃g,f=g+1∧qBr b f l=qBr b g (qCR l b):=by
 obtain⟨g,rfl⟩:∃g,f=g+1:=⟨f - 1,by omega⟩;exact⟨g,rfl,if_pos h⟩
theorem qKo (va vb:Value) (a b:List Int) (M:Nat) (w:World) (ha:RowE intK 156 0 w va a) (hb:RowE intK 156 0 w vb b) (hla:a.length≤1000) (hlb:b.length≤1000) (hb0:b.length≠0) (hta:TopI a) (htb:TopI b)
  (hsa:∀x∈a,Isz x M) (hsb:∀x∈b,Isz x M) (hM:M+(a.length+1 - b.length)*(M+1)≤4000000):
  Calls Tryz.prog 133 #[va,vb] w fun e w'=>∃v',e= .returned v'∧Le w w'∧RowE intK 156 0 w' v' (qA3 a b):=by
 obtain⟨Aa,ca,rfl⟩:=ha.slice;obtain⟨na,hna⟩:∃n,a.length=n:=⟨_,rfl⟩;obtain⟨nb,hnb⟩:∃n,b.length=n:=⟨_,rfl⟩;rw[hna]at ha hla hM ⊢;have hb9:=hb;obtain⟨lb,hlb1⟩:∃l,nb=l+1:=⟨nb - 1,by omega⟩;have hlx:lb<b.length:=by omega
 obtain⟨gb,cb,rfl,-,hgb,-,-,cs,hrd,hc⟩:=hb.at hlx;rw[hnb]at hb hb9 hlb hM hb0 ⊢;have hbl:b[lb]=qAH b:=by unfold qAH;rw[List.getD_eq_getElem?_getD,show b.length - 1=lb by omega,List.getElem?_eq_getElem hlx];rfl
 have hbz:qAH b≠0:=htb (by omega);rw[hbl]at hrd;obtain⟨A1,n1,c1,rfl,hbv⟩:=hrd;obtain⟨sb,hsb1⟩:∃s,decide (qAH b<0)=s:=⟨_,rfl⟩;rw[hsb1]at hc;have x0:w.cell? ⟨gb,lb*2,none⟩=some (.bool sb):=hc 0 _ rfl;have x1:w.cell? ⟨gb,lb*2+1,none⟩=some (.slice A1 n1 c1):=hc 1 _ rfl;obtain⟨W1,hW1,hb1,k1⟩:=qPc w (.cells #[.bool false,.slice A1 n1 c1] 156);obtain⟨bs,hbs⟩:∃b,w.heap.size=b:=⟨_,rfl⟩;rw[hbs]at k1;have hS:sizS b=((qAH b).natAbs :Int):=rfl;have hSv:NumL (fun _=>True) .u32 W1 (.slice A1 n1 c1) (sizS b).natAbs :=by rw[hS,Int.natAbs_natCast];exact hbv.le hb1
 have hS0:decide (sizS b<0)=false:=by rw[hS];exact decide_eq_false (by omega)
 have j1:(nb:Int) - 1=(lb:Int):=by omega
 have j2:(lb:Int)<(nb:Int):=by omega
 have j3:(0:Int)≤(lb:Int):=by omega
 have ha1:=ha.le hb1;have hb2:=hb9.le hb1;have hMS:=qKn hsb;have⟨ha',hb',hb9',hta',htb',hsa',hsb',hc'⟩:=hyd8 ha hb hb9 hta htb hsa hsb hc;have⟨hbv',hbl',hb1',k1',hSv',hS0',ha1'⟩:=hyd7 hbv hbl hb1 k1 hSv hS0 ha1;clear ha1 hS0 hSv k1 hb1 hbl hbv hc hsb hsa htb hta hb9 hb ha;have⟨hb2',hMS',hna',hnb',hsb1',hlb1'⟩:=hyd6 hb2 hMS hna hnb hsb1 hlb1;clear hlb1 hsb1 hnb hna hMS hb2;go_enter Tryz.func133,Tryz.ntmps133;go_wp2_with (fail);have jw:IntKind.i64.wrap (lb:Int)=(lb:Int):=IntWalk.i64_in _ (by omega);have jn:(lb:Int).toNat =lb:=rfl;have hal:=alc1 w (.cells #[.bool false,.slice none 0 0] 156);have hak:(w.alloc (.cells #[.bool false,.slice none 0 0] 156)).heap[w.heap.size]? =some (.cells #[.bool false,.slice none 0 0] 156):=heap_alloc_new _ _;have xa0:=bcl hal hgb x0;have xa1:=bcl hal hgb x1;have za0:=cell_of_row _ w.heap.size 0 _ _ _ hak;have za1:=cell_of_row _ w.heap.size 1 _ _ _ hak;have⟨fa0,fa1⟩:=frz2 hak;have hal2:=alc1 w (.cells #[.bool false,.slice A1 n1 c1] 156);have hak2:(w.alloc (.cells #[.bool false,.slice A1 n1 c1] 156)).heap[w.heap.size]? =some (.cells #[.bool false,.slice A1 n1 c1] 156):=heap_alloc_new _ _;have xb0:=bcl hb1'.out hgb x0;have xb1:=bcl hb1'.out hgb x1;clear hal hak hal2 hak2;go_region;clear hW1 xa0 xa1 za0 za1 fa0 fa1 xb0 xb1 x0 x1;have hMb:M≤4000000:=by omega
 have hSI:IntL W1 (.agg #[.bool false,.slice A1 n1 c1]) (sizS b):=⟨A1,n1,c1,by rw[hS0'.out],hSv'.out⟩;have hSI':=hyd1 hSI;clear hSI;go_wp2_with (fail)
 go_loopw [0] (fun s wr=>∃(A:Option Addr) (c n f:Nat) (l:List Int),s= .slice A n c∧n≤na∧Hid (l.length=n)∧Hid (Below w.heap.size w wr)∧Hid (RowE intK 156 0 wr (.slice A n c) l)∧Hid (RowE intK 156 0 wr (.slice (some ⟨gb,0,none⟩) nb cb) b)∧Hid (wr.heap[bs]? =some (.cells #[.bool false,.slice A1 n1 c1] 156))∧Hid (IntL wr (.agg #[.bool false,.slice A1 n1 c1]) (sizS b))∧
  Hid (n≤f∧qBr b f l=qA3 a b)∧Hid (TopI l)∧Hid (∀x∈l,Isz x (M+(na - n)*(M+1)))) (fun s _=>qC3 s)
 case atStart=>exact⟨Aa,ca,na,na,a,rfl,Nat.le_refl _,hna',hb1',ha1',hb2',k1',hSI',Lib.hid ⟨Nat.le_refl _,by unfold qA3;rw[hna'.out]⟩,hta',Lib.hid (fun x hx=>(hsa'.out x hx).up (by omega))⟩
 case round=>
  obtain⟨A,c,n,f,l,rfl,hn,hln,hbw,hrow,hrb,hks,hsv,hfu,htl,hsl⟩:=hrel
  by_cases hge:nb≤n
  ·obtain⟨t,ht⟩:∃t,n=t+1:=⟨n - 1,by omega⟩;have htx:t<l.length:=by rw[hln.out];omega
   obtain⟨gl,cl,e1,-,hgl,-,-,cs,hrd,hc⟩:=hrow.out.at htx;rw[hln.out]at e1;injection e1 with e1 e2 e3;subst e1 e3;clear e2;have hlt:l[t]=qAH l:=by unfold qAH;rw[List.getD_eq_getElem?_getD,hln.out,show n - 1=t by omega,List.getElem?_eq_getElem htx];rfl
   have hlz:qAH l≠0:=htl.out (by rw[hln.out];omega);rw[hlt]at hrd;obtain⟨A6,n6,c6,rfl,hlv⟩:=hrd;obtain⟨A7,c7,e7⟩:=hlv.slice
   have hn6:0<n6:=by
    injection e7 with e71 e72 e73;rw[e72,dg_length_pos];omega
   clear e7;have hn6i:(0:Int)<(n6:Int):=by omega
   obtain⟨sa,hsa9⟩:∃s,decide (qAH l<0)=s:=⟨_,rfl⟩;rw[hsa9]at hc;have x0:wr.cell? ⟨gl,t*2,none⟩=some (.bool sa):=hc 0 _ rfl;have x1:wr.cell? ⟨gl,t*2+1,none⟩=some (.slice A6 n6 c6):=hc 1 _ rfl;obtain⟨W2,hW2,hb9,k2⟩:=enew wr (.cells #[.bool sa,.slice A6 n6 c6] 156);obtain⟨bt,hbt⟩:∃b,wr.heap.size=b:=⟨_,rfl⟩;rw[hbt]at k2;have t0:W2.cell? ⟨bt,0,none⟩=some (.bool sa):=cell_of_row W2 bt 0 _ _ _ k2;have t1:W2.cell? ⟨bt,1,none⟩=some (.slice A6 n6 c6):=cell_of_row W2 bt 1 _ _ _ k2;have f0:=fz0 k2 0;have j4:(n:Int) - 1=(t:Int):=by omega
   have j5:(t:Int)<(n:Int):=by omega
   have j6:(0:Int)≤(t:Int):=by omega
   have j7:(nb:Int)≤(n:Int):=by omega
   obtain⟨st,hst⟩:∃s,(!sa==sb)=s:=⟨_,rfl⟩;obtain⟨V,hV⟩:∃V,W2.setCell ⟨bt,0,none⟩ (.bool st)=V:=⟨_,rfl⟩;have nb2:=nib2 k2 (qAV _) (qAK _ _ _);have hkV:Kp .u32 W2 V:=by rw[←hV];exact(Kp.refl W2).set nb2 (qAV _)
   have hoV:∀q,q≠bt→V.heap[q]? =W2.heap[q]? :=fun q hq=>by rw[←hV];exact Below.heap_setCell _ ⟨bt,0,none⟩ _ q hq
   have hb02:Below w.heap.size w W2:=hbw.out.trans (hb9.mono hbw.out.size);have hwt:w.heap.size≤bt:=by have:=hbw.out.size;omega
   have hbV:Below w.heap.size w V:=by rw[←hV];exact Below.setCell hb02 (p:=⟨bt,0,none⟩) hwt _
   have hrowV:=(hrow.out.le hb9).keep hkV fun q hq=>hoV q (by have:=(hrow.out.nib hq).2.1;omega);have hrbV:=(hrb.out.le hb9).keep hkV fun q hq=>hoV q (by have:=(hrb.out.nib hq).2.1;omega);have hbst:bs<bt:=by have:=gsl hks.out;omega
   have hksV:=(hoV bs (by omega)).trans ((hb9.block _ (gsl hks.out)).trans hks.out);have hsvV:=(hsv.out.le hb9).kp hkV;have hktV:V.heap[bt]? =some (.cells #[.bool st,.slice A6 n6 c6] 156):=by rw[←hV];exact qEd k2 0 _
   have hnz:l.length=n:=hln.out
   have htvV:IntL V (.agg #[.bool st,.slice A6 n6 c6]) (topT l b):=by
    refine⟨A6,n6,c6,?_,?_⟩
    ·rw[qNt hsa9 hsb1'.out hlz,←hst]
     cases sa<;>cases sb<;>rfl
    ·rw[qNu];exact(hlv.le hb9).kp hkV
   have s0:V.cell? ⟨bs,0,none⟩=some (.bool false):=cell_of_row V bs 0 _ _ _ hksV;have s1:V.cell? ⟨bs,1,none⟩=some (.slice A1 n1 c1):=cell_of_row V bs 1 _ _ _ hksV
   have hmz:M+(na - n)*(M+1)+M+1≤4000000:=by
    obtain⟨d,hd⟩:∃d,na - n=d:=⟨_,rfl⟩;have h9:d+1≤na+1 - nb:=by omega
    have h8:=Nat.mul_le_mul_right (M+1) h9;rw[Nat.add_mul]at h8;rw[hd];omega
   obtain⟨ml,hml⟩:∃ml,M+(na - n)*(M+1)=ml:=⟨_,rfl⟩;rw[hml]at hmz hsl;have hslx:=hsl.out
   have hmp:=qEc (fun c=> .ok (sizS b*c)) 143 #[.agg #[.bool false,.slice A1 n1 c1]] #[] _ l V hrowV.seq (by omega) qJj fun W hW x hx=>
    qMq (sizS b) A1 n1 c1 false W hS0'.out (hsvV.num.1.le hW) x (hMS'.out.up (by omega)) ((hslx x hx).up (by omega))
   have hme:mapE (fun c:Int=>(.ok (sizS b*c):Except Int Int)) l= .ok (l.map fun c:Int=>sizS b*c):=qDD (g:=fun c:Int=>sizS b*c) fun x _=>rfl;rw[hme]at hmp;clear hme;obtain⟨fr,hfr⟩:∃d,n - nb=d:=⟨_,rfl⟩;have hms:(l.map fun c:Int=>sizS b*c)=qAw (sizS b) (topT l b) fr l b 0:=rfl;rw[hms]at hmp;clear hms;have j8:(n:Int) - (nb:Int)=(fr:Int):=by omega
   have⟨hln',hbw',hrow',hrb',hks',hsv',hfu',htl'⟩:=hyd8 hln hbw hrow hrb hks hsv hfu htl;have⟨hsl',hc'⟩:=hyd2 hsl hc;clear hc hsl htl hfu hsv hks hrb hrow hbw hln;have⟨hlt',hlz',hlv',hsa9',hb9',k2',ht',hkV'⟩:=hyd8 hlt hlz hlv hsa9 hb9 k2 ht hkV;have⟨hoV',hb02'⟩:=hyd2 hoV hb02;clear hb02 hoV hkV ht k2 hb9 hsa9 hlv hlz hlt;have⟨hbV',hrowV',hrbV',hksV',hsvV',hktV',htvV',hmp'⟩:=hyd8 hbV hrowV hrbV hksV hsvV hktV htvV hmp;have⟨nb2',hslx'⟩:=hyd2 nb2 hslx;clear hslx nb2 hmp htvV hktV hsvV hksV hrbV hrowV hbV;have⟨hml',hfr',hnz'⟩:=hyd3 hml hfr hnz;clear hnz hfr hml;go_wp2_with (fail);clear x0 x1 t0 t1 f0 hV hW2;go_at_call 134;refine hmp'.out.mono ?_;intro e W4 hE;obtain⟨v5,rfl,hle4,hr4⟩:=hE.ok;obtain⟨A5,c5,rfl⟩:=hr4.slice;have hlen0:(qAw (sizS b) (topT l b) fr l b 0).length =n:=by rw[qDL];exact hnz'.out
   rw[hlen0]at hr4 ⊢;obtain⟨g,c6',e1,hgV,hg4,-,-,-⟩:=hr4.at (j:=0) (by rw[hlen0];omega);rw[hlen0]at e1;injection e1 with e1 e2 e3;subst e1 e3;clear e2;have hgw:w.heap.size≤g:=by have:=hbV'.out.size;omega
   have hgbs:bs≠g:=by have:=gsl hksV'.out;omega
   have hgbt:bt≠g:=by have:=gsl hktV'.out;omega
   have hgB:∀q,(Value.slice (some ⟨gb,0,none⟩) nb cb).ownBlock =some q→q≠g:=fun q hq=>by have:=(hrbV'.out.nib hq).2.1;omega
   have hst4:LeftSt w g n c5 (.slice (some ⟨gb,0,none⟩) nb cb) b bt bs (.cells #[.bool st,.slice A6 n6 c6] 156) (.cells #[.bool false,.slice A1 n1 c1] 156) (.agg #[.bool st,.slice A6 n6 c6]) (.agg #[.bool false,.slice A1 n1 c1]) (topT l b) (sizS b) (qAw (sizS b) (topT l b) fr l b 0) W4:=
    ⟨hbV'.out.trans (hle4.mono hbV'.out.size),hr4.base hbV'.out.size,hrbV'.out.le hle4,(hle4.block _ (gsl hktV'.out)).trans hktV'.out,(hle4.block _ (gsl hksV'.out)).trans hksV'.out,htvV'.out.le hle4,hsvV'.out.le hle4⟩
   have⟨hE',hle4',hr4',hlen0',hst4',hgB'⟩:=hyd6 hE hle4 hr4 hlen0 hst4 hgB;clear hgB hst4 hlen0 hr4 hle4 hE;clear hrowV' hrbV' hksV' hsvV' hktV' htvV' hbV' hmp' hrow' hrb' hks' hsv' hbw';go_wp2_with (fail);rename World=>wz
   go_loopw [59] (fun i wr=>∃k:Nat,i= .int .i64 (k:Int)∧k≤nb∧Hid (LeftSt w g n c5 (.slice (some ⟨gb,0,none⟩) nb cb) b bt bs (.cells #[.bool st,.slice A6 n6 c6] 156) (.cells #[.bool false,.slice A1 n1 c1] 156) (.agg #[.bool st,.slice A6 n6 c6]) (.agg #[.bool false,.slice A1 n1 c1]) (topT l b) (sizS b) (qAw (sizS b) (topT l b) fr l b k) wr)) (fun i _=>nb - (intOf i).toNat)
   case atStart=>exact⟨0,rfl,Nat.zero_le _,hst4'⟩
   case round=>
    obtain⟨k,rfl,hk,hst5⟩:=hrel
    by_cases hkl:k<nb
    ·have hkx:k<b.length:=by rw[hnb'.out];exact hkl
     obtain⟨gx,cx,e1,-,hgx,-,-,cs,hrd,hc⟩:=hst5.out.b.at hkx;rw[hnb'.out]at e1;injection e1 with e1 e2 e3;injection e1 with e1;injection e1 with e1;subst e1 e3;clear e2;have hsc:=hsb'.out _ (List.getElem_mem hkx);have hyd:b.getD k 0=b[k]:=by rw[List.getD_eq_getElem?_getD,List.getElem?_eq_getElem hkx];rfl
     generalize b[k]=y9 at hrd hyd hsc;obtain⟨A2,n2,c2,rfl,hyv⟩:=hrd;obtain⟨s2,hs2⟩:∃s,decide (y9<0)=s:=⟨_,rfl⟩;rw[hs2]at hc;have q0:wr.cell? ⟨gb,k*2,none⟩=some (.bool s2):=hc 0 _ rfl;have q1:wr.cell? ⟨gb,k*2+1,none⟩=some (.slice A2 n2 c2):=hc 1 _ rfl;obtain⟨W2,hW2,hb2,k2⟩:=enew wr (.cells #[.bool s2,.slice A2 n2 c2] 156);obtain⟨b8,hb8⟩:∃b,wr.heap.size=b:=⟨_,rfl⟩;rw[hb8]at k2;have hst6:=hst5.out.le hb2;have hyI:IntL W2 (.agg #[.bool s2,.slice A2 n2 c2]) y9:=⟨A2,n2,c2,by rw[hs2],hyv.le hb2⟩;obtain⟨iq,hiq⟩:∃m,fr+k=m:=⟨_,rfl⟩;have hqn:iq<(qAw (sizS b) (topT l b) fr l b k).length :=by rw[qDL];have:=hnz'.out;have:=hfr'.out;omega
     obtain⟨gq,cq,e1,-,hgq,-,-,cs,hrd,hcl⟩:=hst6.row.at hqn;injection e1 with e1 e2 e3;injection e1 with e1;injection e1 with e1;subst e1;clear e2 e3;have hset:qAw (sizS b) (topT l b) fr l b (k+1)=(qAw (sizS b) (topT l b) fr l b k).set (fr+k) ((qAw (sizS b) (topT l b) fr l b k).getD (fr+k) 0 - topT l b*b.getD k 0):=rfl;have hxd:(qAw (sizS b) (topT l b) fr l b k).getD iq 0=(qAw (sizS b) (topT l b) fr l b k)[iq]:=by rw[List.getD_eq_getElem?_getD,List.getElem?_eq_getElem hqn];rfl
     have hslx2:=hslx'.out;have hsx:=qFQ hslx2 hsb'.out hMS'.out (qGM (b:=b) hslx2) k (by have:=hnz'.out;have:=hfr'.out;omega) _ (List.getElem_mem hqn);rw[hiq,hxd,hyd]at hset;generalize (qAw (sizS b) (topT l b) fr l b k)[iq]=x9 at hrd hset hsx;obtain⟨A4,n4,c4,rfl,hxv⟩:=hrd;obtain⟨s4,hs4⟩:∃s,decide (x9<0)=s:=⟨_,rfl⟩;rw[hs4]at hcl;obtain⟨T,hT⟩:∃T,topT l b=T:=⟨_,rfl⟩;have hTz:=qGM (b:=b) hslx2;have hTI:=hst6.t;rw[hT]at hset hTz hTI;have hxI:IntL W2 (.agg #[.bool s4,.slice A4 n4 c4]) x9:=⟨A4,n4,c4,by rw[hs4],hxv⟩;have x0:W2.cell? ⟨g,iq*2,none⟩=some (.bool s4):=hcl 0 _ rfl;have x1:W2.cell? ⟨g,iq*2+1,none⟩=some (.slice A4 n4 c4):=hcl 1 _ rfl;have z0:W2.cell? ⟨b8,0,none⟩=some (.bool s2):=cell_of_row W2 b8 0 _ _ _ k2;have z1:W2.cell? ⟨b8,1,none⟩=some (.slice A2 n2 c2):=cell_of_row W2 b8 1 _ _ _ k2;have r0:W2.cell? ⟨bt,0,none⟩=some (.bool st):=cell_of_row W2 bt 0 _ _ _ hst6.kt;have r1:W2.cell? ⟨bt,1,none⟩=some (.slice A6 n6 c6):=cell_of_row W2 bt 1 _ _ _ hst6.kt;have l8:=gsl k2;have lt:=gsl hst6.kt;have hTz1:Isz T 100000000:=hTz.up (by omega);have hyz1:Isz y9 100000000:=hsc.up (by omega);have hxz1:Isz x9 90000000:=hsx.up (by omega);have htyz:Isz (T*y9) 90000000:=(qBn hTz hsc).up (by omega);have j9:(k:Int)<(nb:Int):=by omega
     have j10:(0:Int)≤(k:Int):=by omega
     have j11:(fr:Int)+(k:Int)=(iq:Int):=by omega
     have hiqn:iq<n:=by have:=hnz'.out;have:=hfr'.out;omega
     have j12:(iq:Int)<(n:Int):=by omega
     have j13:(0:Int)≤(iq:Int):=by omega
     clear hxd;have⟨hst5',hc',hsc',hyd',hyv',hs2',hb2',k2'⟩:=hyd8 hst5 hc hsc hyd hyv hs2 hb2 k2;have⟨hb8',hst6',hyI'⟩:=hyd3 hb8 hst6 hyI;clear hyI hst6 hb8 k2 hb2 hs2 hyv hyd hsc hc hst5;have⟨hqn',hset',hsx',hxv',hs4',hcl',hT',hTz'⟩:=hyd8 hqn hset hsx hxv hs4 hcl hT hTz;have⟨hTI',hxI'⟩:=hyd2 hTI hxI;clear hxI hTI hTz hT hcl hs4 hxv hsx hset hqn;have⟨hTz1',hyz1',hxz1',htyz',hiq',j11',x0',x1'⟩:=hyd8 hTz1 hyz1 hxz1 htyz hiq j11 x0 x1;have⟨z0',z1',r0',r1'⟩:=hyd4 z0 z1 r0 r1;clear r1 r0 z1 z0 x1 x0 j11 hiq htyz hxz1 hyz1 hTz1;go_wp2_with (fail);rw[hb8'.out];clear hW2 q0 q1;refine qAM (R:=leRel) 15 [some 64,some 65,some 66,some 67,some 68,some 69,some 70,some 71,some 72,some 73,some 74,some 75,some 76,some 77,some 78,none] [[],[],[],[1,2],[],[],[],[5,6],[4,7],[8],[],[],[10,11],[9,12],[0,3],[13,14]]
      [.eq (.slice (some ⟨g,0,none⟩) n c5),.eq (.int .i64 (fr:Int)),.eq (.int .i64 (k:Int)),.eq (.int .i64 (iq:Int)),.eq (.slice (some ⟨g,0,none⟩) n c5),.eq (.int .i64 (fr:Int)),.eq (.int .i64 (k:Int)),.eq (.int .i64 (iq:Int)),.eq (.pointer (some ⟨g,iq*2,none⟩)),.eq (.agg #[.bool s4,.slice A4 n4 c4]),.eq (.agg #[.bool st,.slice A6 n6 c6]),.eq (.agg #[.bool s2,.slice A2 n2 c2]),MPred.intP (T*y9),MPred.intP (x9 - T*y9),.eq (.pointer (some ⟨g,iq*2,none⟩))] (fun _ _=>False) (by kernel_rfl) (by kernel_rfl) (by kernel_rfl) (by kernel_rfl) (by kernel_rfl) ?_ (fun _ _ _ _ h=>h.elim) ?_
     ·simp only[List.take_succ_cons,List.take_zero];refine sMc rfl ?_ (sMc rfl ?_ (sMc rfl ?_ (sMc rfl ?_ (sMc rfl ?_ (sMc rfl ?_ (sMc rfl ?_ (sMc rfl ?_ (sMc rfl ?_ (sMc rfl ?_ (sMc rfl ?_ (sMc rfl ?_ (sMc rfl ?_ (sMc rfl ?_ (sMc rfl ?_ (qAR)))))))))))))))
      ·intro xv W hR hf Q hK hP;simp only[fA]at hK ⊢;go_wp2;exact hK _ _ lrR rfl
      ·intro xv W hR hf Q hK hP;simp only[fA]at hK ⊢;go_wp2;exact hK _ _ lrR rfl
      ·intro xv W hR hf Q hK hP;simp only[fA]at hK ⊢;go_wp2;exact hK _ _ lrR rfl
      ·intro xv W hR hf Q hK hP;obtain⟨e0,e1,-⟩:=hf;change _=_ at e0 e1;have jj:=j11'.out;simp only[fA,e0,e1]at hK ⊢;go_wp2;exact hK _ _ lrR (by show Value.int _ _=Value.int _ _;congr 1)
      ·intro xv W hR hf Q hK hP;simp only[fA]at hK ⊢;go_wp2;exact hK _ _ lrR rfl
      ·intro xv W hR hf Q hK hP;simp only[fA]at hK ⊢;go_wp2;exact hK _ _ lrR rfl
      ·intro xv W hR hf Q hK hP;simp only[fA]at hK ⊢;go_wp2;exact hK _ _ lrR rfl
      ·intro xv W hR hf Q hK hP;obtain⟨e0,e1,-⟩:=hf;change _=_ at e0 e1;have jj:=j11'.out;simp only[fA,e0,e1]at hK ⊢;go_wp2;exact hK _ _ lrR (by show Value.int _ _=Value.int _ _;congr 1)
      ·intro xv W hR hf Q hK hP;obtain⟨e0,e1,-⟩:=hf;change _=_ at e0 e1;simp only[fA,e0,e1]at hK ⊢;go_wp2;exact hK _ _ lrR rfl
      ·intro xv W hR hf Q hK hP;obtain⟨e0,-⟩:=hf;change _=_ at e0;have t0:=(Below.cell hR (p:=⟨g,iq*2,none⟩) hgq).trans x0'.out;have t1:=(Below.cell hR (p:=⟨g,iq*2+1,none⟩) hgq).trans x1'.out;simp only[fA,e0]at hK ⊢;go_wp2;exact hK _ _ lrR rfl
      ·intro xv W hR hf Q hK hP;have t0:=(Below.cell hR (p:=⟨bt,0,none⟩) lt).trans r0'.out;have t1:=(Below.cell hR (p:=⟨bt,1,none⟩) lt).trans r1'.out;simp only[fA]at hK ⊢;go_wp2;exact hK _ _ lrR rfl
      ·intro xv W hR hf Q hK hP;have t0:=(Below.cell hR (p:=⟨b8,0,none⟩) l8).trans z0'.out;have t1:=(Below.cell hR (p:=⟨b8,1,none⟩) l8).trans z1'.out;simp only[fA]at hK ⊢;go_wp2;exact hK _ _ lrR rfl
      ·intro xv W hR hf Q hK hP;obtain⟨e0,e1,-⟩:=hf;change _=_ at e0 e1;simp only[fA,e0,e1]at hK ⊢;have kc:=qDK T y9 _ _ W (hTI'.out.le hR) (hyI'.out.le hR) hTz1'.out hyz1'.out;have kc':=hyd1 kc;clear kc;go_wp2_with (fail);go_at_call 143;refine kc'.out.mono ?_;rintro e w' ⟨v',rfl,y1,vA,vn,vc,rfl,y2⟩;have⟨y1',y2'⟩:=hyd2 y1 y2;clear y2 y1;go_wp2;exact hK _ _ y1'.out ⟨_,_,_,rfl,y2'.out⟩
      ·intro xv W hR hf Q hK hP;obtain⟨e0,e1,-⟩:=hf;change _=_ at e0;replace e1:IntL W (xv 12) (T*y9):=e1;obtain⟨wA,wn,wc,qw,wh⟩:=e1;simp only[fA,e0,qw]at hK ⊢;have kc:=qI5 x9 (T*y9) _ _ W (hxI'.out.le hR) ⟨_,_,_,rfl,wh⟩ hxz1'.out htyz'.out;have kc':=hyd1 kc;clear kc;go_wp2_with (fail);go_at_call 144;refine kc'.out.mono ?_;rintro e w' ⟨v',rfl,y1,vA,vn,vc,rfl,y2⟩;have⟨y1',y2'⟩:=hyd2 y1 y2;clear y2 y1;go_wp2;exact hK _ _ y1'.out ⟨_,_,_,rfl,y2'.out⟩
      ·intro xv W hR hf Q hK hP;obtain⟨e0,e1,-⟩:=hf;change _=_ at e0 e1;simp only[fA,e0,e1]at hK ⊢;go_wp2;exact hK _ _ lrR rfl
     intro xv W hR hf Q' hQ1 _;obtain⟨A3,m3,c3,qv,f13⟩:IntL W (xv 13) (x9 - T*y9):=hf 13 (by decide);have e14:=hf 14 (by decide);change _=_ at e14;simp only[List.drop_succ_cons,List.drop_zero];rw[show List.range 15=[0,1,2,3,4,5,6,7,8,9,10,11,12,13,14]from rfl];simp only[fA,qv,e14];clear hf;clear qv e14;have t0:=(Below.cell hR (p:=⟨g,iq*2,none⟩) hgq).trans x0'.out;have t1:=(Below.cell hR (p:=⟨g,iq*2+1,none⟩) hgq).trans x1'.out;have y0:=(hst6'.out.row.le hR).frz (iq*2);have y1:=(hst6'.out.row.le hR).frz (iq*2+1);obtain⟨s3,hs3⟩:∃s,decide (x9 - T*y9<0)=s:=⟨_,rfl⟩;rw[hs3];have⟨f13',hR',hs3'⟩:=hyd3 f13 hR hs3;clear hs3 hR f13;go_wp2;refine hQ1 _ _ ?_;clear hQ1 t0 t1 y0 y1;have f13:=f13'.out;have hR:=hR'.out;have hs3:=hs3'.out;clear f13' hR' hs3';have hr1:=((hst6'.out.le hR).store hgw hgB'.out hgbt hgbs (j:=iq) hqn'.out hs3 f13).1;rw[hT'.out,←hset'.out,←hT'.out]at hr1;have⟨hr1',f13',hR',hs3'⟩:=hyd4 hr1 f13 hR hs3;clear hs3 hR f13 hr1;go_wp2;go_roundw
     case rel=>exact⟨k+1,by go_num,by omega,hr1'⟩
     case measure=>simp[intOf];omega
    ·obtain rfl:k=nb:=by omega
     have j9:¬(k:Int)<(k:Int):=by omega
     have hst6:=hst5.out;have hzs:qAw (sizS b) (topT l b) fr l b k=qEK l b:=by unfold qEK;rw[hnz'.out,hnb'.out,hfr'.out]
     have hslx2:=hslx'.out;have hsx:=qFQ hslx2 hsb'.out hMS'.out (qGM (b:=b) hslx2) (fr:=fr) k (by have:=hnz'.out;have:=hfr'.out;omega);have hlz2:(qAw (sizS b) (topT l b) fr l b k).length =n:=by rw[qDL];exact hnz'.out
     rw[hzs]at hst6 hsx hlz2;have hr6:=hst6.row;have kp:=qE3 w.heap.size _ (qEK l b) wr hr6 (by omega) (fun x hx=>(hsx x hx).up (by omega));have hsi:qA7 (qEK l b)=qCR l b:=rfl;rw[hsi]at kp;obtain⟨f2,hf2,hf3⟩:=qJk (b:=b) (l:=l) (f:=f) (by rw[hnb'.out,hnz'.out];exact hge) (by rw[hnb'.out];exact hb0) (by rw[hnz'.out];exact hfu'.out.out.1);have hlt2:=qEg (a:=l) (b:=b) (by rw[hnb'.out];exact hb0) (by rw[hnb'.out,hnz'.out];exact hge);rw[hnz'.out]at hlt2;have hfu2:(qCR l b).length ≤f2∧qBr b f2 (qCR l b)=qA3 a b:=⟨by have:=hfu'.out.out.1;omega,by rw[←hf3];exact hfu'.out.out.2⟩;have hsz2:=qJg hslx2 hsb'.out (by rw[hnb'.out,hnz'.out];exact hge);have htop2:TopI (qCR l b):=qAn _;obtain⟨n2,hn2⟩:∃n,(qCR l b).length =n:=⟨_,rfl⟩;rw[hn2]at hfu2 hlt2
     have hsz3:∀x∈qCR l b,Isz x (M+(na - n2)*(M+1)):=fun x hx=>(hsz2 x hx).up (by
      have h9:na - n+1≤na - n2:=by omega
      have h8:=Nat.mul_le_mul_right (M+1) h9;have h7:=hml'.out;rw[Nat.add_mul]at h8
      omega)
     have⟨hst5',hst6',hzs',hsx',hlz2',hr6',kp',hsi'⟩:=hyd8 hst5 hst6 hzs hsx hlz2 hr6 kp hsi;have⟨hf3',hfu2',hsz2',htop2'⟩:=hyd4 hf3 hfu2 hsz2 htop2;clear htop2 hsz2 hfu2 hf3 hsi kp hr6 hlz2 hsx hzs hst6 hst5;have⟨hn2',hsz3'⟩:=hyd2 hn2 hsz3;clear hsz3 hn2;go_wp2_with (fail);go_at_call 139;refine kp'.out.mono ?_;rintro e W6 ⟨v6,rfl,hle6,hr7⟩;have hst8:=hst6'.out.le hle6;obtain⟨A8,c8,rfl⟩:=hr7.slice;rw[hn2'.out]at hr7 ⊢;have hr8:=hr7.base (base':=0) (Nat.zero_le _);have r1:=hst8.below;have r2:=hst8.b;have r3:=hst8.ks;have r4:=hst8.s;have⟨hle6',hr7',hst8',hr8',r1',r2',r3',r4'⟩:=hyd8 hle6 hr7 hst8 hr8 r1 r2 r3 r4;clear r4 r3 r2 r1 hr8 hst8 hr7 hle6;go_wp2;go_roundw
     case rel=>exact⟨A8,c8,n2,f2,qCR l b,rfl,by omega,hn2',r1',hr8',r2',r3',r4',hfu2',htop2',hsz3'⟩
     case measure=>simp[qC3];omega
  ·have h1:=qFR (b:=b) (l:=l) (by rw[hnb'.out,hln.out];exact hge) f;have hfu2:=hfu.out.2;rw[h1]at hfu2;have hb9:=hbw.out;have hr9:=hrow.out;rw[hfu2]at hr9;have j4:¬(nb:Int)≤(n:Int):=by omega
   have⟨h1',hfu2',hb9',hr9'⟩:=hyd4 h1 hfu2 hb9 hr9;clear hr9 hb9 hfu2 h1;go_wp2;go_ret;exact⟨_,rfl,hb9'.out,hr9'.out⟩
end Go.Proofs.YtenjpccpldajoaaGreatDoor
