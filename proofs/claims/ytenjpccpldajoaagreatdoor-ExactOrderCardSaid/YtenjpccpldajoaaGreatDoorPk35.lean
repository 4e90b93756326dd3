/- Roots, program side: signs at a fraction. (The regions between --@ARM and --@END are printed by gen_roots.py.) -/
import Derived.Test.YtenjpccpldajoaaGreatDoorPk34
namespace Go.Proofs.YtenjpccpldajoaaGreatDoor
set_option maxRecDepth 100000
set_option maxHeartbeats 1000000
open Go.RowKit Go.Shelf
set_option linter.unusedVariables false
set_option linter.unusedSimpArgs false
def qCq (p:List Int) (a d:Int):Nat→Int
 | 0=>0
 | i+1=>qCq p a d i*a+p.getD (p.length - 1 - i) 0*d^i
theorem isz_one:Isz 1 1:=by unfold Isz;exact qFS (by decide)
theorem qNw (n:Nat):Isz 0 n:=by unfold Isz;rw[show(0:Int).natAbs =0 from rfl,qA4];exact Nat.zero_le _
theorem qIP {d:Int} {S:Nat} (h:Isz d S):∀k,Isz (d^k) (1+k*S)
 | 0=>by rw[Int.pow_zero];exact isz_one.up (by omega)
 | k+1=>by rw[Int.pow_succ,Nat.add_mul];exact(qBn (qIP h k) h).up (by omega)
theorem qOq {a b:Int} {m n:Nat} (ha:Isz a m) (hb:Isz b n):Isz (a+b) (max m n+1):=by
 have h:=qKl ha (b:= -b) (n:=n) (by unfold Isz at hb ⊢;rwa[Int.natAbs_neg])
 rwa[show a - -b=a+b by omega]at h
theorem qJt {p:List Int} {a d:Int} {M S:Nat} (hp:∀x∈p,Isz x M) (ha:Isz a S) (hd:Isz d S):∀k,Isz (qCq p a d k) (M+k*(2*S+2)+1)
 | 0=>qNw _
 | k+1=>by
  have h1:=qBn (qJt hp ha hd k) ha;have h2:=qBn (qDg hp (p.length - 1 - k)) (qIP hd k);have e:k*(2*S+2)=k*S+k*S+2*k:=by rw[Nat.mul_add,Nat.two_mul,Nat.mul_add];omega
  unfold qCq;refine(qOq h1 h2).up ?_;rw[Nat.add_mul,e];omega
def MPred.boxI (n:Nat):MPred:=⟨fun v W=>∃B,v= .pointer (some ⟨B,0,none⟩)∧n≤B∧W.heap[B]? =some (.cells #[.bool false,.slice none 0 0] 156),
 fun _ _ _ hb ⟨B,e,h1,k⟩=>⟨B,e,h1,(hb.block B (gsl k)).trans k⟩⟩
theorem qJu {W:World} {B:Nat} {t:TypeId} {x y u0 u1:Value} (k:W.heap[B]? =some (.cells #[x,y] t)) (hx:NI .u32 x) (hy:NI .u32 y) (h0:NI .u32 u0) (h1:NI .u32 u1):
  ((W.setCell ⟨B,0,none⟩ u0).setCell ⟨B,1,none⟩ u1).heap[B]? =some (.cells #[u0,u1] t)∧Kp .u32 W ((W.setCell ⟨B,0,none⟩ u0).setCell ⟨B,1,none⟩ u1)∧(∀q,q≠B→((W.setCell ⟨B,0,none⟩ u0).setCell ⟨B,1,none⟩ u1).heap[q]? =W.heap[q]?)∧∀m,m≤B→Below m W ((W.setCell ⟨B,0,none⟩ u0).setCell ⟨B,1,none⟩ u1):=by
 have n0:=nib2 k hx hy;exact⟨qIL k,((Kp.refl W).set n0 h0).set (qDa n0 h0) h1,fun q hq=>(Below.heap_setCell _ ⟨B,1,none⟩ _ q hq).trans (Below.heap_setCell _ ⟨B,0,none⟩ _ q hq),fun m hm=>Below.setCell (Below.setCell (Below.refl _ _) (p:=⟨B,0,none⟩) hm _) (p:=⟨B,1,none⟩) hm _⟩
theorem qNx {W:World} {B:Nat} {t:TypeId} {x y u0:Value} (k:W.heap[B]? =some (.cells #[x,y] t)) (hx:NI .u32 x) (hy:NI .u32 y) (h0:NI .u32 u0):
  (W.setCell ⟨B,0,none⟩ u0).heap[B]? =some (.cells #[u0,y] t)∧Kp .u32 W (W.setCell ⟨B,0,none⟩ u0)∧(∀q,q≠B→(W.setCell ⟨B,0,none⟩ u0).heap[q]? =W.heap[q]?)∧∀m,m≤B→Below m W (W.setCell ⟨B,0,none⟩ u0):=by
 have n0:=nib2 k hx hy;exact⟨qEd k 0 u0,(Kp.refl W).set n0 h0,fun q hq=>Below.heap_setCell _ ⟨B,0,none⟩ _ q hq,fun m hm=>Below.setCell (Below.refl _ _) (p:=⟨B,0,none⟩) hm _⟩
def IBox (W:World) (B:Nat) (z:Int):Prop:=∃s A n c,W.heap[B]? =some (.cells #[.bool s,.slice A n c] 156)∧IntL W (.agg #[.bool s,.slice A n c]) z
theorem IBox.le {W V:World} {B:Nat} {z:Int} (h:IBox W B z) (hb:Le W V):IBox V B z:=by
 obtain⟨s,A,n,c,k,hz⟩:=h;exact⟨s,A,n,c,(hb.block _ (gsl k)).trans k,hz.le hb⟩
theorem IBox.keep {W V:World} {B:Nat} {z:Int} (h:IBox W B z) (hk:Kp .u32 W V) (hs:V.heap[B]? =W.heap[B]?):IBox V B z:=by
 obtain⟨s,A,n,c,k,hz⟩:=h;exact⟨s,A,n,c,hs.trans k,hz.kp hk⟩
theorem qLe (base:Nat) (v:Value) (p:List Int) (a d:Int) (B1 B2:Nat) (w:World) (hv:RowE intK 156 base w v p) (hl:p.length≤66) (hs:∀x∈p,Isz x 4000000)
  (k1:IBox w B1 a) (k2:IBox w B2 d) (hsa:Isz a 10000) (hsd:Isz d 10000):
  Calls Tryz.prog 142 #[v,.pointer (some ⟨B1,0,none⟩),.pointer (some ⟨B2,0,none⟩)] w fun e w'=>e= .returned (.int .i64 (qCq p a d p.length).sign)∧Le w w':=by
 obtain⟨A,c,rfl⟩:=hv.slice;obtain⟨n,hn⟩:∃n,p.length=n:=⟨_,rfl⟩;rw[hn]at hl hv ⊢;have⟨hv',hn',hs',k1',k2',hsa',hsd'⟩:=hyd7 hv hn hs k1 k2 hsa hsd;clear hsd hsa k2 k1 hs hn hv;go_enter Tryz.func142,Tryz.ntmps142;go_wp2_with (fail)
 obtain⟨W0,hW0,hle0,kS,kP⟩:∃W0,((w.alloc (.cells #[.int .u32 1] 92)).alloc (.cells #[.bool false,.slice none 0 0] 156)).alloc (.cells #[.bool false,.slice (some ⟨w.heap.size,0,none⟩) 1 1] 156)=W0∧Le w W0∧IBox W0 (w.heap.size+1) 0∧IBox W0 (w.heap.size+1+1) 1:=by
  obtain⟨V1,hV1,hb1,q1⟩:=enew w (.cells #[.int .u32 1] 92);obtain⟨V2,hV2,hb2,q2⟩:=enew V1 (.cells #[.bool false,.slice none 0 0] 156);obtain⟨V3,hV3,hb3,q3⟩:=enew V2 (.cells #[.bool false,.slice (some ⟨w.heap.size,0,none⟩) 1 1] 156);have z1:V1.heap.size=w.heap.size+1:=by rw[←hV1];simp
  have z2:V2.heap.size=w.heap.size+1+1:=by rw[←hV2];simp[z1]
  rw[z1]at q2;rw[z2]at q3
  have hone:NumL (fun _=>True) .u32 V1 (.slice (some ⟨w.heap.size,0,none⟩) 1 1) 1:=by
   rw[←hV1];exact qDG (L:=fun _=>True) (k:= .u32) (V:=w) (g:=1) (fun _ _=>trivial) (by omega) qDy _
  have hzero:NumL (fun _=>True) .u32 V3 (.slice none 0 0) 0:=by
   unfold NumL;rw[qA4];exact⟨none,0,rfl,Nat.le_refl _,Nat.zero_le _,fun _=>rfl,fun h=>absurd h (Nat.lt_irrefl 0)⟩
  have h12:Le V1 V3:=hb2.trans (hb3.mono hb2.size);refine⟨V3,by rw[hV1,hV2,hV3],hb1.trans (h12.mono hb1.size),⟨_,_,_,_,(hb3.block _ (gsl q2)).trans q2,none,0,0,rfl,hzero⟩,⟨_,_,_,_,q3,_,_,_,rfl,hone.le h12⟩⟩
 rw[hW0];obtain⟨bs,hbs9⟩:∃b,w.heap.size+1=b:=⟨_,rfl⟩;obtain⟨bp,hbp9⟩:∃b,bs+1=b:=⟨_,rfl⟩;rw[hbs9]at kS kP ⊢;rw[hbp9]at kP ⊢;have hbsw:w.heap.size≤bs:=by omega
 have hbpw:w.heap.size≤bp:=by omega
 have hbsp:bs≠bp:=by omega
 clear hW0;have⟨hle0',kS',kP',hbs9',hbp9',hbsp'⟩:=hyd6 hle0 kS kP hbs9 hbp9 hbsp;clear hbsp hbp9 hbs9 kP kS hle0;go_loopw [14] (fun i wr=>∃k:Nat,i= .int .i64 (k:Int)∧k≤n∧Hid (Below w.heap.size w wr)∧Hid (IBox wr bs (qCq p a d k))∧Hid (IBox wr bp (d^k))) (fun i _=>n - (intOf i).toNat)
 case atStart=>exact⟨0,rfl,Nat.zero_le _,hle0',kS',Lib.hid (by rw[Int.pow_zero];exact kP'.out)⟩
 case round=>
  obtain⟨k,rfl,hk,hb,kbs,kbp⟩:=hrel;have hbr:=hb.out;obtain⟨ss,As,ns,cs,kbs,hsv⟩:=kbs.out;obtain⟨sp,Ap,np,cp,kbp,hpv⟩:=kbp.out;have hbs:=gsl kbs;have hbp:=gsl kbp
  by_cases hlt:k<n
  ·obtain⟨t,ht⟩:∃t,n - 1 - k=t:=⟨_,rfl⟩;obtain⟨l9,hl9⟩:∃t,n - 1=t:=⟨_,rfl⟩;have htx:t<p.length:=by rw[hn'.out];omega
   obtain⟨g,c',e1,-,hgl,-,-,cs9,hrd,hc⟩:=(hv'.out.le hbr).at htx;rw[hn'.out]at e1;injection e1 with e1 e2 e3;subst e1 e3;clear e2;have hpt:p.getD (p.length - 1 - k) 0=p[t]:=by rw[hn'.out,show n - 1 - k=t from ht,List.getD_eq_getElem?_getD,List.getElem?_eq_getElem htx];rfl
   have hnx:qCq p a d (k+1)=qCq p a d k*a+p.getD (p.length - 1 - k) 0*d^k:=rfl;have hpx:d^(k+1)=d^k*d:=Int.pow_succ d k;have hszH:=qJt hs'.out hsa'.out hsd'.out k;have hszP:=qIP hsd'.out k;have hsz0:=hs'.out _ (List.getElem_mem htx);rw[hpt]at hnx;generalize p[t]=z at hrd hpt hnx hsz0;obtain⟨A5,n5,c5,rfl,hzn⟩:=hrd;obtain⟨s5,hs5⟩:∃s,decide (z<0)=s:=⟨_,rfl⟩;have hzv:IntL wr (.agg #[.bool s5,.slice A5 n5 c5]) z:=⟨A5,n5,c5,by rw[hs5],hzn⟩;rw[hs5]at hc;obtain⟨H9,hH9⟩:∃H,qCq p a d k=H:=⟨_,rfl⟩;obtain⟨P9,hP9⟩:∃H,d^k=H:=⟨_,rfl⟩;rw[hH9]at hsv hnx hszH;rw[hP9]at hpv hnx hszP hpx;have hk66:k*(2*10000+2)≤66*(2*10000+2):=Nat.mul_le_mul_right _ (by omega);have hk67:k*10000≤66*10000:=Nat.mul_le_mul_right _ (by omega);have hsz:Isz z 100000000:=hsz0.up (by decide);have hsp:Isz P9 100000000:=hszP.up (by omega);have hsh:Isz H9 100000000:=hszH.up (by omega);have hsa8:Isz a 100000000:=hsa'.out.up (by decide);have hsd8:Isz d 100000000:=hsd'.out.up (by decide);have hsha:Isz (H9*a) 90000000:=(qBn hszH hsa'.out).up (by omega);have hszc:Isz (z*P9) 90000000:=(qBn hsz0 hszP).up (by omega);have x0:wr.cell? ⟨g,t*2,none⟩=some (.bool s5):=hc 0 _ rfl;have x1:wr.cell? ⟨g,t*2+1,none⟩=some (.slice A5 n5 c5):=hc 1 _ rfl;have p0:wr.cell? ⟨bp,0,none⟩=some (.bool sp):=cell_of_row wr bp 0 _ _ _ kbp;have p1:wr.cell? ⟨bp,1,none⟩=some (.slice Ap np cp):=cell_of_row wr bp 1 _ _ _ kbp
   have j1:(k:Int)<(n:Int):=by omega
   have j2:(0:Int)≤(k:Int):=by omega
   have j4:(n:Int) - 1=(l9:Int):=by omega
   have j5:(l9:Int) - (k:Int)=(t:Int):=by omega
   have j6:(t:Int)<(n:Int):=by omega
   have j7:(0:Int)≤(t:Int):=by omega
   clear hb;have⟨hbr',kbs',hsv',kbp',hpv',hpt',hnx',hpx'⟩:=hyd8 hbr kbs hsv kbp hpv hpt hnx hpx;have⟨hszH',hszP',hsz0',hzn',hzv',hc',hs5',hH9'⟩:=hyd8 hszH hszP hsz0 hzn hzv hc hs5 hH9;have⟨hP9',hsz',hsp'⟩:=hyd3 hP9 hsz hsp;clear hsp hsz hP9 hH9 hs5 hc hzv hzn hsz0 hszP hszH hpx hnx hpt hpv kbp hsv kbs hbr;have⟨hsh',hsa8',hsd8',hsha',hszc',x0',x1',p0'⟩:=hyd8 hsh hsa8 hsd8 hsha hszc x0 x1 p0;have⟨p1',ht',hl9',j4',j5'⟩:=hyd5 p1 ht hl9 j4 j5;clear j5 j4 hl9 ht p1 p0 x1 x0 hszc hsha hsd8 hsa8 hsh;go_wp2_with (fail);refine qAM (R:=leRel) 11 [some 17,some 18,some 19,some 20,some 21,some 22,some 23,some 24,some 25,some 26,some 8,none] [[],[],[1],[2],[],[3,4],[0,5],[6],[],[7,8],[],[9,10]]
    [.eq (.slice (some ⟨g,0,none⟩) n c),.eq (.slice (some ⟨g,0,none⟩) n c),.eq (.int .i64 (n:Int)),.eq (.int .i64 (l9:Int)),.eq (.int .i64 (k:Int)),.eq (.int .i64 (t:Int)),.eq (.pointer (some ⟨g,t*2,none⟩)),.eq (.agg #[.bool s5,.slice A5 n5 c5]),.eq (.agg #[.bool sp,.slice Ap np cp]),MPred.intP (z*P9),MPred.boxI wr.heap.size] (fun _ _=>False) (by kernel_rfl) (by kernel_rfl) (by kernel_rfl) (by kernel_rfl) (by kernel_rfl) ?_ (fun _ _ _ _ h=>h.elim) ?_
   ·simp only[List.take_succ_cons,List.take_zero];refine sMc rfl ?_ (sMc rfl ?_ (sMc rfl ?_ (sMc rfl ?_ (sMc rfl ?_ (sMc rfl ?_ (sMc rfl ?_ (sMc rfl ?_ (sMc rfl ?_ (sMc rfl ?_ (sMc rfl ?_ (qAR)))))))))))
    ·intro xv W hR hf Q hK hP;simp only[fA]at hK ⊢;go_wp2;exact hK _ _ lrR rfl
    ·intro xv W hR hf Q hK hP;simp only[fA]at hK ⊢;go_wp2;exact hK _ _ lrR rfl
    ·intro xv W hR hf Q hK hP;obtain⟨e0,-⟩:=hf;change _=_ at e0;simp only[fA,e0]at hK ⊢;go_wp2;exact hK _ _ lrR rfl
    ·intro xv W hR hf Q hK hP;obtain⟨e0,-⟩:=hf;change _=_ at e0;have jj:=j4'.out;simp only[fA,e0]at hK ⊢;go_wp2;exact hK _ _ lrR (by show Value.int _ _=Value.int _ _;congr 1)
    ·intro xv W hR hf Q hK hP;simp only[fA]at hK ⊢;go_wp2;exact hK _ _ lrR rfl
    ·intro xv W hR hf Q hK hP;obtain⟨e0,e1,-⟩:=hf;change _=_ at e0 e1;have jj:=j5'.out;simp only[fA,e0,e1]at hK ⊢;go_wp2;exact hK _ _ lrR (by show Value.int _ _=Value.int _ _;congr 1)
    ·intro xv W hR hf Q hK hP;obtain⟨e0,e1,-⟩:=hf;change _=_ at e0 e1;simp only[fA,e0,e1]at hK ⊢;go_wp2;exact hK _ _ lrR rfl
    ·intro xv W hR hf Q hK hP;obtain⟨e0,-⟩:=hf;change _=_ at e0;have t0:=(Below.cell hR (p:=⟨g,t*2,none⟩) hgl).trans x0'.out;have t1:=(Below.cell hR (p:=⟨g,t*2+1,none⟩) hgl).trans x1'.out;simp only[fA,e0]at hK ⊢;go_wp2;exact hK _ _ lrR rfl
    ·intro xv W hR hf Q hK hP;have t0:=(Below.cell hR (p:=⟨bp,0,none⟩) hbp).trans p0'.out;have t1:=(Below.cell hR (p:=⟨bp,1,none⟩) hbp).trans p1'.out;simp only[fA]at hK ⊢;go_wp2;exact hK _ _ lrR rfl
    ·intro xv W hR hf Q hK hP;obtain⟨e0,e1,-⟩:=hf;change _=_ at e0 e1;simp only[fA,e0,e1]at hK ⊢;have kc:=qDK z P9 _ _ W (hzv'.out.le hR) (hpv'.out.le hR) hsz'.out hsp'.out;have kc':=hyd1 kc;clear kc;go_wp2_with (fail);go_at_call 143;refine kc'.out.mono ?_;rintro e w' ⟨v',rfl,y1,y2⟩;have⟨y1',y2'⟩:=hyd2 y1 y2;clear y2 y1;go_wp2;exact hK _ _ y1'.out y2'.out
    ·intro xv W hR hf Q hK hP;simp only[fA]at hK ⊢;go_wp2;exact hK _ _ (alc1 _ _) ⟨_,rfl,hR.size,heap_alloc_new _ _⟩
   intro xv W hR hf Q' hQ1 _;obtain⟨A3,n3,c3,qv,f9⟩:IntL W (xv 9) (z*P9):=hf 9 (by decide);obtain⟨bc,e10,hbc,kbc⟩:∃B,xv 10= .pointer (some ⟨B,0,none⟩)∧wr.heap.size≤B∧W.heap[B]? =some (.cells #[.bool false,.slice none 0 0] 156):=hf 10 (by decide);simp only[List.drop_succ_cons,List.drop_zero];rw[show List.range 11=[0,1,2,3,4,5,6,7,8,9,10]from rfl];simp only[fA,qv,e10];clear hf;clear qv e10;obtain⟨sc,hsc⟩:∃s,decide (z*P9<0)=s:=⟨_,rfl⟩;rw[hsc];have t0:W.cell? ⟨bc,0,none⟩=some (.bool false):=cell_of_row W bc 0 _ _ _ kbc;have t1:W.cell? ⟨bc,1,none⟩=some (.slice none 0 0):=cell_of_row W bc 1 _ _ _ kbc;have⟨y0,y1⟩:=frz2 kbc;have⟨f9',hR',kbc',hsc'⟩:=hyd4 f9 hR kbc hsc;clear hsc kbc hR f9;go_wp2;refine hQ1 _ _ ?_;clear hQ1 t0 t1 y0 y1;have f9:=f9'.out;have hR:=hR'.out;have kbc:=kbc'.out;have hsc:=hsc'.out;clear f9' hR' kbc' hsc';have hC:=qBn hsz0'.out hszP'.out;obtain⟨C9,hC9⟩:∃C,z*P9=C:=⟨_,rfl⟩;have hszc9:=hszc'.out;rw[hC9]at f9 hsc hszc9;have hnx9:=hnx'.out;rw[hC9]at hnx9;obtain⟨g1,g2,d0,d1⟩:=qCn (b:=sc) (z:=C9) (hR:Le wr W) hbc kbc (qAV _) (qAK _ _ _) f9 hsc.symm;have kV:=qIL (u0:= .bool sc) (u1:= .slice A3 n3 c3) kbc;obtain⟨V,hV⟩:∃V,(W.setCell ⟨bc,0,none⟩ (.bool sc)).setCell ⟨bc,1,none⟩ (.slice A3 n3 c3)=V:=⟨_,rfl⟩;rw[hV]at g1 g2 d0 d1 kV ⊢;have hn3:=(g2.num).1;have hpos:=qGw (qJm hn3);obtain⟨s7,hs7⟩:∃s,decide (-C9<0)=s:=⟨_,rfl⟩
   obtain⟨k7,hk7,ho7,hb7⟩:=qNx (u0:= .bool s7) kV (qAV _) (qAK _ _ _) (qAV _);have y0:=fz0 kV 0;obtain⟨V2,hV2⟩:∃V2,V.setCell ⟨bc,0,none⟩ (.bool s7)=V2:=⟨_,rfl⟩;rw[hV2]at k7 hk7 ho7 hb7;have hle2:Le wr V2:=Below.trans (show Below wr.heap.size wr V from g1) (hb7 _ hbc);have hcv:IntL V2 (.agg #[.bool s7,.slice A3 n3 c3]) (-C9):=⟨A3,n3,c3,by rw[hs7],by rw[Int.natAbs_neg];exact hn3.kp hk7⟩;have hbl:=gsl k7;have hbr2:Below w.heap.size w V2:=hbr'.out.trans (hle2.mono hbr'.out.size);have kbs2:=(hle2.block _ hbs).trans kbs'.out;have kbp2:=(hle2.block _ hbp).trans kbp'.out;have hsv2:=hsv'.out.le hle2;have hpv2:=hpv'.out.le hle2;have hbs2:=gsl kbs2;obtain⟨sa,A1,n1,c1,ka,hav⟩:=k1'.out.le hbr2;have hb1:=gsl ka;have s0:V2.cell? ⟨bs,0,none⟩=some (.bool ss):=cell_of_row V2 bs 0 _ _ _ kbs2;have s1:V2.cell? ⟨bs,1,none⟩=some (.slice As ns cs):=cell_of_row V2 bs 1 _ _ _ kbs2;have a0:V2.cell? ⟨B1,0,none⟩=some (.bool sa):=cell_of_row V2 B1 0 _ _ _ ka;have a1:V2.cell? ⟨B1,1,none⟩=some (.slice A1 n1 c1):=cell_of_row V2 B1 1 _ _ _ ka;have c0:V2.cell? ⟨bc,0,none⟩=some (.bool s7):=cell_of_row V2 bc 0 _ _ _ k7;have c9:V2.cell? ⟨bc,1,none⟩=some (.slice A3 n3 c3):=cell_of_row V2 bc 1 _ _ _ k7;have hsc9:Isz (-C9) 90000000:=by unfold Isz at hszc9 ⊢;rwa[Int.natAbs_neg]
   have hbcs:bc≠bs:=by have:=gsl kbs'.out;omega
   have hbcp:bc≠bp:=by have:=gsl kbp'.out;omega
   have hn7:sc=true→s7=false:=fun h=>by
    rw[←hs7];rw[h]at hsc;have h9:C9<0:=by simpa using hsc
    exact decide_eq_false (by omega)
   have hn8:sc=false→decide (0<n3)=s7:=fun h=>by
    rw[←hs7];rw[h]at hsc;have h9:¬C9<0:=by simpa using hsc
    exact decide_eq_decide.2 (by rw[hpos];omega)
   clear f9 kbc hR hsz';have⟨g1',g2',kV',hn3',hpos',k7',hk7',ho7'⟩:=hyd8 g1 g2 kV hn3 hpos k7 hk7 ho7;have⟨hb7',hle2',hcv',hbr2',kbs2',kbp2',hsv2',hpv2'⟩:=hyd8 hb7 hle2 hcv hbr2 kbs2 kbp2 hsv2 hpv2;have⟨hC',hC9',hszc9',hnx9',hsc'⟩:=hyd5 hC hC9 hszc9 hnx9 hsc;clear hsc hnx9 hszc9 hC9 hC hpv2 hsv2 kbp2 kbs2 hbr2 hcv hle2 hb7 ho7 hk7 k7 hpos hn3 kV g2 g1;have⟨hs7',ka',hav',s0',s1',a0',a1',c0'⟩:=hyd8 hs7 ka hav s0 s1 a0 a1 c0;have⟨c9',hsc9',hbcs',hbcp',hn7',hn8'⟩:=hyd6 c9 hsc9 hbcs hbcp hn7 hn8;clear hn8 hn7 hbcp hbcs hsc9 c9 c0 a1 a0 s1 s0 hav ka hs7
   cases sc
   all_goals first | (have h8:=hn8'.out rfl;go_wp2_with (fail);clear h8)| (have h7:=hn7'.out rfl;rw[h7]at hV2;clear h7;go_wp2_with (fail))
   all_goals
    clear hV2 y0;refine qAM (R:=leRel) 5 [some 37,some 38,some 39,some 40,some 41,none] [[],[],[0,1],[],[2,3],[4]]
     [.eq (.agg #[.bool ss,.slice As ns cs]),.eq (.agg #[.bool sa,.slice A1 n1 c1]),MPred.intP (H9*a),.eq (.agg #[.bool s7,.slice A3 n3 c3]),MPred.intP (H9*a - -C9)] (fun _ _=>False) (by kernel_rfl) (by kernel_rfl) (by kernel_rfl) (by kernel_rfl) (by kernel_rfl) ?_ (fun _ _ _ _ h=>h.elim) ?_
    ·simp only[List.take_succ_cons,List.take_zero];refine sMc rfl ?_ (sMc rfl ?_ (sMc rfl ?_ (sMc rfl ?_ (sMc rfl ?_ (qAR)))))
     ·intro xv W hR hf Q hK hP;have t0:=(Below.cell hR (p:=⟨bs,0,none⟩) hbs2).trans s0'.out;have t1:=(Below.cell hR (p:=⟨bs,1,none⟩) hbs2).trans s1'.out;simp only[fA]at hK ⊢;go_wp2;exact hK _ _ lrR rfl
     ·intro xv W hR hf Q hK hP;have t0:=(Below.cell hR (p:=⟨B1,0,none⟩) hb1).trans a0'.out;have t1:=(Below.cell hR (p:=⟨B1,1,none⟩) hb1).trans a1'.out;simp only[fA]at hK ⊢;go_wp2;exact hK _ _ lrR rfl
     ·intro xv W hR hf Q hK hP;obtain⟨e0,e1,-⟩:=hf;change _=_ at e0 e1;simp only[fA,e0,e1]at hK ⊢;have kc:=qDK H9 a _ _ W (hsv2'.out.le hR) (hav'.out.le hR) hsh'.out hsa8'.out;have kc':=hyd1 kc;clear kc;go_wp2_with (fail);go_at_call 143;refine kc'.out.mono ?_;rintro e w' ⟨v',rfl,y1,y2⟩;have⟨y1',y2'⟩:=hyd2 y1 y2;clear y2 y1;go_wp2;exact hK _ _ y1'.out y2'.out
     ·intro xv W hR hf Q hK hP;have t0:=(Below.cell hR (p:=⟨bc,0,none⟩) hbl).trans c0'.out;have t1:=(Below.cell hR (p:=⟨bc,1,none⟩) hbl).trans c9'.out;simp only[fA]at hK ⊢;go_wp2;exact hK _ _ lrR rfl
     ·intro xv W hR hf Q hK hP;obtain⟨e0,e1,-⟩:=hf;change _=_ at e1;replace e0:IntL W (xv 2) (H9*a):=e0;simp only[fA,e1]at hK ⊢;have kc:=qI5 (H9*a) (-C9) _ _ W e0 (hcv'.out.le hR) hsha'.out hsc9'.out;have kc':=hyd1 kc;clear kc;go_wp2_with (fail);go_at_call 144;refine kc'.out.mono ?_;rintro e w' ⟨v',rfl,y1,y2⟩;have⟨y1',y2'⟩:=hyd2 y1 y2;clear y2 y1;go_wp2;exact hK _ _ y1'.out y2'.out
    intro xv W hR hf Q' hQ1 _;obtain⟨A6,n6,c6,qv,f4⟩:IntL W (xv 4) (H9*a - -C9):=hf 4 (by decide);simp only[List.drop_succ_cons,List.drop_zero];rw[show List.range 5=[0,1,2,3,4]from rfl];simp only[fA,qv];clear hf;clear qv;obtain⟨s6,hs6⟩:∃s,decide (H9*a - -C9<0)=s:=⟨_,rfl⟩;rw[hs6];have kbs:=(hR.block _ hbs2).trans kbs2'.out;have t0:W.cell? ⟨bs,0,none⟩=some (.bool ss):=cell_of_row W bs 0 _ _ _ kbs;have t1:W.cell? ⟨bs,1,none⟩=some (.slice As ns cs):=cell_of_row W bs 1 _ _ _ kbs;have⟨y0,y1⟩:=frz2 kbs;have kbsW:=kbs;have⟨f4',hR',kbsW',hs6'⟩:=hyd4 f4 hR kbsW hs6;clear hs6 kbsW hR f4;clear kbs;go_wp2;refine hQ1 _ _ ?_;clear hQ1 t0 t1 y0 y1;have f4:=f4'.out;have hR:=hR'.out;have kbsW:=kbsW'.out;have hs6:=hs6'.out;clear f4' hR' kbsW' hs6';obtain⟨k9,hk9,ho9,hb9⟩:=qJu (u0:= .bool s6) (u1:= .slice A6 n6 c6) kbsW (qAV _) (qAK _ _ _) (qAV _) (qAK _ _ _);obtain⟨V3,hV3⟩:∃V3,(W.setCell ⟨bs,0,none⟩ (.bool s6)).setCell ⟨bs,1,none⟩ (.slice A6 n6 c6)=V3:=⟨_,rfl⟩;rw[hV3]at k9 hk9 ho9 hb9 ⊢;clear hV3;have hIB:IBox V3 bs (qCq p a d (k+1)):=⟨s6,A6,n6,c6,k9,⟨A6,n6,c6,by rw[hnx9'.out,←hs6,show H9*a - -C9=H9*a+C9 by omega],by rw[hnx9'.out,←show H9*a - -C9=H9*a+C9 by omega];exact f4.kp hk9⟩⟩;have hbr3:Below w.heap.size w V3:=(hbr2'.out.trans (hR.mono hbr2'.out.size)).trans (hb9 _ hbsw);have hbps:=hbsp'.out;have kbp3:=(ho9 bp (fun h=>hbps h.symm)).trans ((hR.block _ (gsl kbp2'.out)).trans kbp2'.out)
    have hpv3:=(hpv2'.out.le hR).kp hk9;obtain⟨sd,A2,n2,c2,kd,hdv⟩:=k2'.out.le hbr3;have p0:V3.cell? ⟨bp,0,none⟩=some (.bool sp):=cell_of_row V3 bp 0 _ _ _ kbp3;have p1:V3.cell? ⟨bp,1,none⟩=some (.slice Ap np cp):=cell_of_row V3 bp 1 _ _ _ kbp3;have q0:V3.cell? ⟨B2,0,none⟩=some (.bool sd):=cell_of_row V3 B2 0 _ _ _ kd;have q1:V3.cell? ⟨B2,1,none⟩=some (.slice A2 n2 c2):=cell_of_row V3 B2 1 _ _ _ kd;have kt:=qDK P9 d _ _ V3 hpv3 hdv (hszP'.out.up (by omega)) hsd8'.out;clear f4 kbsW hs6 hR hbps;have⟨k9',hk9',ho9',hb9',hIB',hbr3',kbp3',hpv3'⟩:=hyd8 k9 hk9 ho9 hb9 hIB hbr3 kbp3 hpv3;have⟨kd',hdv',kt'⟩:=hyd3 kd hdv kt;clear kt hdv kd hpv3 kbp3 hbr3 hIB hb9 ho9 hk9 k9;go_wp2_with (fail);go_at_call 143;refine kt'.out.mono ?_;rintro e W4 ⟨v4,rfl,hle4,A8,n8,c8,rfl,hn8⟩;obtain⟨s8,hs8⟩:∃s,decide (P9*d<0)=s:=⟨_,rfl⟩;rw[hs8];have kbp4:=(hle4.block _ (gsl kbp3'.out)).trans kbp3'.out;have hbr4:Below w.heap.size w W4:=hbr3'.out.trans (hle4.mono hbr3'.out.size);obtain⟨k10,hk10,ho10,hb10⟩:=qJu (u0:= .bool s8) (u1:= .slice A8 n8 c8) kbp4 (qAV _) (qAK _ _ _) (qAV _) (qAK _ _ _);have t0:W4.cell? ⟨bp,0,none⟩=some (.bool sp):=cell_of_row W4 bp 0 _ _ _ kbp4;have t1:W4.cell? ⟨bp,1,none⟩=some (.slice Ap np cp):=cell_of_row W4 bp 1 _ _ _ kbp4;have⟨y0,y1⟩:=frz2 kbp4;obtain⟨V5,hV5⟩:∃V5,(W4.setCell ⟨bp,0,none⟩ (.bool s8)).setCell ⟨bp,1,none⟩ (.slice A8 n8 c8)=V5:=⟨_,rfl⟩;rw[hV5]at k10 hk10 ho10 hb10
    have hIB5:IBox V5 bs (qCq p a d (k+1)):=(hIB'.out.le hle4).keep hk10 (ho10 bs hbsp'.out);have hIP5:IBox V5 bp (d^(k+1)):=⟨s8,A8,n8,c8,k10,⟨A8,n8,c8,by rw[hpx'.out,hs8],by rw[hpx'.out];exact hn8.kp hk10⟩⟩;have hbr5:Below w.heap.size w V5:=hbr4.trans (hb10 _ hbpw);clear p0 p1 q0 q1;have⟨hle4',hn8',hs8',kbp4',hbr4',k10',hk10',ho10'⟩:=hyd8 hle4 hn8 hs8 kbp4 hbr4 k10 hk10 ho10;have⟨hb10',hIB5',hIP5',hbr5'⟩:=hyd4 hb10 hIB5 hIP5 hbr5;clear hbr5 hIP5 hIB5 hb10 ho10 hk10 k10 hbr4 kbp4 hs8 hn8 hle4;go_wp2;clear hV5 t0 t1 y0 y1;go_roundw
    case rel=>exact⟨k+1,by go_num,by omega,hbr5',hIB5',hIP5'⟩
    case measure=>simp[intOf];omega
  ·obtain rfl:k=n:=by omega
   have j1:¬(k:Int)<(k:Int):=by omega
   have kg:=qJo _ _ wr hsv;have s0:wr.cell? ⟨bs,0,none⟩=some (.bool ss):=cell_of_row wr bs 0 _ _ _ kbs;have s1:wr.cell? ⟨bs,1,none⟩=some (.slice As ns cs):=cell_of_row wr bs 1 _ _ _ kbs;obtain⟨z,hz⟩:∃z,(qCq p a d k).sign =z:=⟨_,rfl⟩;rw[hz]at kg;clear hb;have⟨hbr',kbs',hsv',kbp',hpv',kg',hz'⟩:=hyd7 hbr kbs hsv kbp hpv kg hz;clear hz kg hpv kbp hsv kbs hbr;go_wp2_with (fail);go_at_call 136;refine kg'.out.mono ?_;rintro e W4 ⟨rfl,hle4⟩;have hbr4:Below w.heap.size w W4:=hbr'.out.trans (hle4.mono hbr'.out.size);have⟨hle4',hbr4'⟩:=hyd2 hle4 hbr4;clear hbr4 hle4;go_wp2;go_ret;exact⟨by rw[hz'.out];rfl,hbr4'.out⟩
end Go.Proofs.YtenjpccpldajoaaGreatDoor
