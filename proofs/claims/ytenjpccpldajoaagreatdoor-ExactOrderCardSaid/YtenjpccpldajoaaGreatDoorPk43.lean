/- Texts: Parse, exported. The law's package: frac, same, turn, poly. -/
import Derived.Test.YtenjpccpldajoaaGreatDoorPk42
namespace Go.Proofs.YtenjpccpldajoaaGreatDoor
set_option maxRecDepth 100000
set_option maxHeartbeats 1000000
open Go.RowKit Go.Shelf
set_option linter.unusedVariables false
set_option linter.unusedSimpArgs false
theorem qFt:qAF Tryz.prog 43:=fun _ _=>by kernel_rfl
theorem qOG (L:Nat→Prop) (l:List UInt8) (w:World) (hL:Up w L) (hl2:l.length≤1000000) (hw:TxW w):
  Calls Tryz.prog 11 #[.string (baL l)] w (qC1 L (qAr l) w):=by
 have hmf:∀(fn:Fn) (first cap:Array Value) (w:World),(Instr.makeFunc fn first cap).run Tryz.prog w= .ok (.func fn first cap) w:=fun _ _ _ _=>rfl;have hsz:=qBz l;obtain⟨N,hN⟩:∃N,l.length=N:=⟨_,rfl⟩;rw[hN]at hsz;obtain⟨W0,hW0,hsz0,hle0,kx,kz⟩:=qAy w (.cells #[.string (baL l)] 9) (.cells #[.bool false,.slice none 0 0,.bool false,.slice none 0 0] 26);have c0:=qAC kx
 by_cases hbig:800<N
 ·have j1:800<(N:Int):=by omega
  have hpar:qAr l= .error 4:=qLW (by omega);have hle9:=fun u0 u1 u2 u3=>qAu (u0:=u0) (u1:=u1) (u2:=u2) (u3:=u3) hle0 (X:=w.heap.size+1) (by omega);have hb9:=fun u0 u1 u2 u3=>qAA (qAd (u0:=u0) (u1:=u1) (u2:=u2) (u3:=u3) kz);obtain⟨⟨f0,f1,f2,f3⟩,g0,g1,g2,g3⟩:=qEx kz;have⟨hL',hN',hsz0',hle0',kx',kz',hpar',hw'⟩:=hyd8 hL hN hsz0 hle0 kx kz hpar hw;have⟨hl2',hle9',hb9',hmf'⟩:=hyd4 hl2 hle9 hb9 hmf;clear hmf hb9 hle9 hl2 hw hpar kz kx hle0 hsz0 hN hL;go_enter Tryz.func11,Tryz.ntmps11;go_wp2_with (fail);obtain⟨d0,d1,d2,d3⟩:=hb9'.out (.bool false) (.slice none 0 0) (.bool false) (.slice none 0 0);exact bodyPost_ret (v:= .tuple #[qCz,.int .i64 4]) (by simp[results,Tryz.results11,go_sem,qCz,d0,d1,d2,d3]) rfl ⟨hle9'.out _ _ _ _,_,_,rfl,by rw[hpar'.out];exact⟨rfl,rfl⟩⟩
 ·have j1:¬800<(N:Int):=by omega
  have hlt0:=(gsl kx)
  have hrun:Calls Tryz.prog 42 #[.func (.func 43) #[] #[.pointer (some ⟨w.heap.size,0,none⟩)]] W0 (qC1 L (qAr l) W0):=by
   have h1:=fun W (hW:Le W0 W)=>qNH L l w.heap.size W (hL.le (hle0.trans hW)) (by omega) ((hW.block _ hlt0).trans kx) (hw.le (hle0.trans hW))
   cases hp:qAr l with
   | ok r=>
    refine(qDb L r _ _ W0 qFt fun W hW=>(h1 W hW).mono fun e W' h=>?_).mono fun e w' ⟨v,h2,h3,h4⟩=>⟨h3,v,0,h2,h4,rfl⟩;obtain⟨hle2,⟨r2,v,h2,h3,h4⟩| ⟨c,h2,-⟩⟩:=h
    ·rw[hp]at h2;injection h2 with h2;subst h2;exact⟨v,h3,hle2,h4⟩
    ·rw[hp]at h2;cases h2
   | error x=>
    refine(qEb x _ _ W0 qFt fun W hW=>(h1 W hW).mono fun e W' h=>?_).mono fun e w' ⟨h2,h3⟩=>⟨h3,_,x,h2,rfl,rfl⟩;obtain⟨hle2,⟨r2,v,h2,-,-⟩| ⟨c,h2,h3⟩⟩:=h
    ·rw[hp]at h2;cases h2
    ·rw[hp]at h2;injection h2 with h2;subst h2;exact⟨h3,hle2⟩
  have⟨hL',hN',hsz0',hle0',kx',kz',hw',hl2'⟩:=hyd8 hL hN hsz0 hle0 kx kz hw hl2;have hrun':=hyd1 hrun;clear hrun hl2 hw kz kx hle0 hsz0 hN hL;go_enter Tryz.func11,Tryz.ntmps11;go_wp2_with (fail);clear hW0;go_at_call 42;refine hrun'.out.mono ?_;rintro e W1 ⟨hle1,v4,c5,rfl,hres⟩;obtain⟨s5,A5,n5,c6,s6,A6,n6,c7,rfl⟩:=hres.form;have k2d:=(hle1.block _ (gsl kz'.out)).trans kz'.out;have hle11:=hle0'.out.trans hle1;have hle9:=fun u0 u1 u2 u3=>qAu (u0:=u0) (u1:=u1) (u2:=u2) (u3:=u3) hle11 (X:=w.heap.size+1) (by omega);have hb9:=fun u0 u1 u2 u3=>qAA (qAd (u0:=u0) (u1:=u1) (u2:=u2) (u3:=u3) k2d);have hfin:=fun u0 u1 u2 u3=>IsRes.box4 (u0:=u0) (u1:=u1) (u2:=u2) (u3:=u3) hres k2d;obtain⟨⟨f0,f1,f2,f3⟩,g0,g1,g2,g3⟩:=qEx k2d;have⟨hle1',hres',k2d',hle9',hb9',hfin',hle11'⟩:=hyd7 hle1 hres k2d hle9 hb9 hfin hle11;clear hle11 hfin hb9 hle9 k2d hres hle1;go_wp2;obtain⟨d0,d1,d2,d3⟩:=hb9'.out (.bool s5) (.slice A5 n5 c6) (.bool s6) (.slice A6 n6 c7);exact bodyPost_ret (v:= .tuple #[.agg #[.bool s5,.slice A5 n5 c6,.bool s6,.slice A6 n6 c7],.int .i64 c5]) (by simp[results,Tryz.results11,go_sem,d0,d1,d2,d3]) rfl ⟨hle9'.out _ _ _ _,_,_,rfl,hfin'.out _ _ _ _⟩
set_option maxHeartbeats 2000000
theorem qDi (r:Rat) (l:List UInt8) (w:World) (hw:TxW w) (hl:qAL r=l) (hs:l.length≤200):
  Calls Tryz.prog 21 #[.string (baL l)] w fun e w'=>∃v,e= .returned v∧Le w w'∧FracL (fun _=>True) w' v r:=by
 have hz:Rsz r 40:=qBi (by rw[hl];exact hs);have hpar:=qLV hz;rw[hl]at hpar;obtain⟨W0,hW0,hle0,kz⟩:=al1 w (.cells #[.bool false,.slice none 0 0,.bool false,.slice none 0 0] 26);have q1:=qOG (fun _=>True) l W0 (Up.any _) (by omega) (hw.le hle0);rw[hpar]at q1;have⟨hw',hl',hs',hz',hpar',hle0',kz',q1'⟩:=hyd8 hw hl hs hz hpar hle0 kz q1;clear q1 kz hle0 hpar hz hs hl hw;go_enter Tryz.func21,Tryz.ntmps21;go_wp2_with (fail);clear hW0;go_at_call 11;refine q1'.out.mono ?_;rintro e W1 ⟨hle1,v4,c5,rfl,hfr,rfl⟩;have hfr0:=hfr;obtain⟨A5,c5,A6,c6,rfl,-,-⟩:=hfr;obtain⟨n5,hn5⟩:∃n5,(dg (rnum r)).length =n5:=⟨_,rfl⟩;obtain⟨n6,hn6⟩:∃n6,(dg r.den).length =n6:=⟨_,rfl⟩;obtain⟨s5,hs5⟩:∃s5,rneg r=s5:=⟨_,rfl⟩;rw[hn5,hn6,hs5]at hfr0 ⊢;obtain⟨W2,hW2,hle2,kx⟩:=al1 W1 (.cells #[.bool s5,.slice A5 n5 c5,.bool false,.slice A6 n6 c6] 26);have hle12:=hle1.trans hle2;have kz2:=(hle12.block _ (gsl kz'.out)).trans kz'.out;have hlew:=hle0'.out.trans hle12;have hfr2:=FracL.le hfr0 hle2;have hle9:=fun u0 u1 u2 u3=>qAu (u0:=u0) (u1:=u1) (u2:=u2) (u3:=u3) hlew (Nat.le_refl _);have hb9:=fun u0 u1 u2 u3=>qAA (qAd (u0:=u0) (u1:=u1) (u2:=u2) (u3:=u3) kz2);have hfin:=fun u0 u1 u2 u3=>FracL.box4 (u0:=u0) (u1:=u1) (u2:=u2) (u3:=u3) hfr2 kz2;obtain⟨⟨f0,f1,f2,f3⟩,g0,g1,g2,g3⟩:=qEx kz2;obtain⟨x0,x1,x2,x3⟩:=qAA kx;have⟨hle1',hfr0',hfr2',hle2',kx',hle12',kz2',hlew'⟩:=hyd8 hle1 hfr0 hfr2 hle2 kx hle12 kz2 hlew
 have⟨hle9',hb9',hfin',hn5',hn6',hs5'⟩:=hyd6 hle9 hb9 hfin hn5 hn6 hs5;clear hs5 hn6 hn5 hfin hb9 hle9 hlew kz2 hle12 kx hle2 hfr2 hfr0 hle1;go_wp2;obtain⟨d0,d1,d2,d3⟩:=hb9'.out (.bool s5) (.slice A5 n5 c5) (.bool false) (.slice A6 n6 c6);exact bodyPost_ret (v:= .agg #[.bool s5,.slice A5 n5 c5,.bool false,.slice A6 n6 c6]) (by simp[results,Tryz.results21,go_sem,d0,d1,d2,d3]) rfl ⟨_,rfl,hle9'.out _ _ _ _,hfin'.out _ _ _ _⟩
theorem qDj (x y:FracA) (va vb:Value) (w:World) (h1:IsFracA (fun _=>True) w va x) (h2:IsFracA (fun _=>True) w vb y):
  Calls Tryz.prog 12 #[va,vb] w fun e w'=>e= .returned (.bool (qBG x y))∧Le w w':=by
 have h10:=h1;have h20:=h2;obtain⟨A,c,B,d,rfl,-,-⟩:=h1;obtain⟨A',c',B',d',rfl,-,-⟩:=h2;obtain⟨W0,hW0,hsz,hle0,k0,k1⟩:=qAy w (.cells #[.bool x.sn,.slice A x.gn.length c,.bool x.sd,.slice B x.gd.length d] 26) (.cells #[.bool y.sn,.slice A' y.gn.length c',.bool y.sd,.slice B' y.gd.length d'] 26);obtain⟨x0,x1,x2,x3⟩:=qAA k0;obtain⟨y0,y1,y2,y3⟩:=qAA k1;have q:=qDA (fun _=>True) (fun _=>True) x y _ _ W0 (h10.le hle0) (h20.le hle0);have⟨h10',h20',hle0',k0',k1',q',hsz'⟩:=hyd7 h10 h20 hle0 k0 k1 q hsz;clear hsz q k1 k0 hle0 h20 h10;go_enter Tryz.func12,Tryz.ntmps12;go_wp2_with (fail);go_at_call 51;refine q'.out.mono ?_;rintro e W1 ⟨rfl,hle1⟩;have hle1':=hyd1 hle1;clear hle1;go_wp2;go_ret;exact⟨rfl,hle0'.out.trans hle1'.out⟩
theorem qKy (rs:List Rat) (b:Nat) (w:World) (hw:TxW w) (hb0:b<w.heap.size) (hlen:rs.length≤100) (hsz:∀r∈rs,(qAL r).length ≤200)
  (hc:∀j (h:j<rs.length),w.cell? ⟨b,j,none⟩=some (.string (baL (qAL rs[j])))):
  Calls Tryz.prog 33 #[.slice (some ⟨b,0,none⟩) rs.length rs.length] w fun e w'=>∃v,e= .returned v∧Le w w'∧RowE (frK (fun _=>True)) 26 w.heap.size w' v rs:=by
 have hinfo:(Tryz.prog.info? 26).map (fun i=>(i.zero,i.size,i.bytes))=some (some (.agg #[.bool false,.slice none 0 0,.bool false,.slice none 0 0]),4,64):=by kernel_rfl
 obtain⟨n,hn⟩:∃n,rs.length=n:=⟨_,rfl⟩;rw[hn]at hlen ⊢;have⟨hn',hw',hsz',hc',hinfo'⟩:=hyd5 hn hw hsz hc hinfo;clear hinfo hc hsz hw hn;go_enter Tryz.func33,Tryz.ntmps33;go_wp2_with (fail);go_loopw [3,8] (fun s i wr=>∃k:Nat,i= .int .i64 (k:Int)∧k≤n∧Hid (Below w.heap.size w wr)∧Hid (RowE (frK (fun _=>True)) 26 w.heap.size wr s (rs.take k))) (fun _ i _=>n - (intOf i).toNat)
 case atStart=>exact⟨0,rfl,Nat.zero_le _,Lib.hid (Below.refl _ _),Lib.hid (RowE.nil _ _ _ _)⟩
 case round=>
  obtain⟨k,rfl,hk,hb,hrow⟩:=hrel
  by_cases hlt:k<n
  ·have hkx:k<rs.length:=by rw[hn'.out];exact hlt
   have htk:rs.take (k+1)=rs.take k++[rs[k]]:=by rw[List.take_succ_eq_append_getElem hkx]
   have hck:=(Below.cell hb.out (p:=⟨b,k,none⟩) hb0).trans (hc'.out k hkx);have hrz:=hsz'.out rs[k] (List.getElem_mem hkx);generalize rs[k]=r at htk hck hrz;obtain⟨l,hl⟩:∃l,qAL r=l:=⟨_,rfl⟩;rw[hl]at hck hrz;have hle0:Le w wr:=hb.out;have q1:=qDi r l wr (hw'.out.le hle0) hl hrz;have j1:(k:Int)<(n:Int):=by omega
   have j2:(0:Int)≤(k:Int):=by omega
   have hyl:(rs.take k).length =k:=by rw[List.length_take];omega
   obtain⟨SA,sc,e3⟩:∃A c,u3= .slice A (rs.take k).length c:=hrow.out.slice;rw[hyl]at e3;subst e3;have⟨hb',hrow',htk',hl',hrz',hle0',q1',hyl'⟩:=hyd8 hb hrow htk hl hrz hle0 q1 hyl;clear hyl q1 hle0 hrz hl htk hrow hb;go_wp2_with (fail);go_at_call 21;refine q1'.out.mono ?_;rintro e W2 ⟨v,rfl,hle2,hfr⟩;have hfr0:=hfr;obtain⟨A2,c2,B2,d2,rfl,-,-⟩:=hfr;obtain⟨n2,hn2⟩:∃n5,(dg (rnum r)).length =n5:=⟨_,rfl⟩;obtain⟨m2,hm2⟩:∃n6,(dg r.den).length =n6:=⟨_,rfl⟩;obtain⟨s2,hs2⟩:∃s5,rneg r=s5:=⟨_,rfl⟩;rw[hn2,hm2,hs2]at hfr0 ⊢;obtain⟨W3,hW3,hb3,k3⟩:=enew W2 (.cells #[.bool s2,.slice A2 n2 c2,.bool false,.slice B2 m2 d2] 26);have hle3:Le w W3:=hle0'.out.trans (hle2.trans hb3);have hrow3:=hrow'.out.out.le (hle2.trans hb3);have hyr3:(frK (fun _=>True)).rd W3 [.bool s2,.slice A2 n2 c2,.bool false,.slice B2 m2 d2] r:=⟨s2,A2,n2,c2,false,B2,m2,d2,rfl,FracL.le hfr0 hb3⟩
   have hnew:∀(i:Nat) (u:Value),([.bool s2,.slice A2 n2 c2,.bool false,.slice B2 m2 d2]:List Value)[i]? =some u→W3.cell? ⟨W2.heap.size,i,none⟩=some u:=fun i u hu=>by
    have hi4:i<4:=(List.getElem?_eq_some_iff.1 hu).1
    match i,hi4 with
    | 0,_=>have z:=cell_of_row W3 W2.heap.size 0 _ _ _ k3;rw[z];simpa using hu
    | 1,_=>have z:=cell_of_row W3 W2.heap.size 1 _ _ _ k3;rw[z];simpa using hu
    | 2,_=>have z:=cell_of_row W3 W2.heap.size 2 _ _ _ k3;rw[z];simpa using hu
    | 3,_=>have z:=cell_of_row W3 W2.heap.size 3 _ _ _ k3;rw[z];simpa using hu
   have hz3:=hle3.size;have⟨hle2',hfr0',hb3',k3',hle3',hrow3',hyr3',hnew'⟩:=hyd8 hle2 hfr0 hb3 k3 hle3 hrow3 hyr3 hnew;have⟨hn2',hm2',hs2'⟩:=hyd3 hn2 hm2 hs2;clear hs2 hm2 hn2 hnew hyr3 hrow3 hle3 k3 hb3 hfr0 hle2;go_wp2_with (first | (at_builtin;go_must (refine RowE.append hrow3'.out rfl _ _ 45 rfl 64 (.agg #[.bool false,.slice none 0 0,.bool false,.slice none 0 0]) (by decide) Tryz.underlying45 hinfo'.out rfl qOW rfl W2.heap.size rfl hyr3'.out hnew'.out (by rw[hyl'.out];omega) hz3 ?_)));intro v7 W7 q1 q2 q3 q4 q5;rw[←htk'.out]at q1;have r3:Below w.heap.size w W7:=(show Below w.heap.size w W3 from hle3'.out).trans q2;have⟨q1',q2',q3',q4',q5',r3'⟩:=hyd6 q1 q2 q3 q4 q5 r3;clear r3 q5 q4 q3 q2 q1;go_wp2;go_roundw
   case rel=>exact⟨k+1,by go_num,by omega,r3',q1'⟩
   case measure=>(simp[intOf];try omega)
  ·obtain rfl:k=n:=by omega
   have hb9:=hb.out;have hr9:=hrow.out;rw[List.take_of_length_le (by rw[hn'.out];exact Nat.le_refl _)]at hr9;have j1:¬(k:Int)<(k:Int):=by omega
   have⟨hb9',hr9'⟩:=hyd2 hb9 hr9;clear hr9 hb9;go_wp2;go_ret;exact⟨_,rfl,hb9'.out,hr9'.out⟩
theorem qFX (a b c:Rat) (la lb lc:List UInt8) (w:World) (hw:TxW w) (ha:qAL a=la) (hb:qAL b=lb) (hc:qAL c=lc) (sa:la.length≤200) (sb:lb.length≤200) (sc:lc.length≤200):
  Calls Tryz.prog 33 #[.slice (some ⟨w.heap.size,0,none⟩) 3 3] (w.alloc (.cells #[.string (baL la),.string (baL lb),.string (baL lc)] 9)) fun e w'=>∃v,e= .returned v∧Le w w'∧SeqE inK w' v [qAE a,qAE b,qAE c]:=by
 have hle:=qAB w (.cells #[.string (baL la),.string (baL lb),.string (baL lc)] 9);have hk:=heap_alloc_new w (.cells #[.string (baL la),.string (baL lb),.string (baL lc)] 9);refine(qKy [a,b,c] w.heap.size _ (hw.le hle) (by rw[World.size_alloc];omega) (by simp) (fun r hr=>?_) (fun j hj=>?_)).mono ?_
 ·simp only[List.mem_cons,List.mem_nil_iff,or_false]at hr
  rcases hr with rfl|rfl|rfl
  ·rw[ha];exact sa
  ·rw[hb];exact sb
  ·rw[hc];exact sc
 ·match j,hj with
  | 0,_=>rw[show([a,b,c]:List Rat)[0]=a from rfl,ha];exact cell_of_row _ w.heap.size 0 _ _ _ hk
  | 1,_=>rw[show([a,b,c]:List Rat)[1]=b from rfl,hb];exact cell_of_row _ w.heap.size 1 _ _ _ hk
  | 2,_=>rw[show([a,b,c]:List Rat)[2]=c from rfl,hc];exact cell_of_row _ w.heap.size 2 _ _ _ hk
 ·rintro e w' ⟨v,rfl,h1,h2⟩;exact⟨v,rfl,hle.trans h1,h2.seq.answers⟩
theorem qOH (a b:Rat) (la lb:List UInt8) (w:World) (hw:TxW w) (ha:qAL a=la) (hb:qAL b=lb) (sa:la.length≤200) (sb:lb.length≤200):
  Calls Tryz.prog 33 #[.slice (some ⟨w.heap.size,0,none⟩) 2 2] (w.alloc (.cells #[.string (baL la),.string (baL lb)] 9)) fun e w'=>∃v,e= .returned v∧Le w w'∧SeqE inK w' v [qAE a,qAE b]:=by
 have hle:=qAB w (.cells #[.string (baL la),.string (baL lb)] 9);have hk:=heap_alloc_new w (.cells #[.string (baL la),.string (baL lb)] 9);refine(qKy [a,b] w.heap.size _ (hw.le hle) (by rw[World.size_alloc];omega) (by simp) (fun r hr=>?_) (fun j hj=>?_)).mono ?_
 ·simp only[List.mem_cons,List.mem_nil_iff,or_false]at hr
  rcases hr with rfl|rfl
  ·rw[ha];exact sa
  ·rw[hb];exact sb
 ·match j,hj with
  | 0,_=>rw[show([a,b]:List Rat)[0]=a from rfl,ha];exact cell_of_row _ w.heap.size 0 _ _ _ hk
  | 1,_=>rw[show([a,b]:List Rat)[1]=b from rfl,hb];exact cell_of_row _ w.heap.size 1 _ _ _ hk
 ·rintro e w' ⟨v,rfl,h1,h2⟩;exact⟨v,rfl,hle.trans h1,h2.seq.answers⟩
theorem qGT (a b:Rat) (la lb:List UInt8) (w:World) (hw:TxW w) (ha:qAL a=la) (hb:qAL b=lb) (sa:la.length≤200) (sb:lb.length≤200):
  Calls Tryz.prog 30 #[.string (baL la),.string (baL lb)] w fun e w'=>∃v,e= .returned v∧Le w w'∧IsTurnA w' v (qCr (a,b)):=by
 obtain⟨W0,hW0,hle0,kz⟩:=al1 w (.cells #[.bool false,.slice none 0 0,.bool false,.slice none 0 0,.bool false,.slice none 0 0,.bool false,.slice none 0 0] 56);have q1:=qDi a la W0 (hw.le hle0) ha sa;have⟨hw',ha',hb',sa',sb',hle0',kz',q1'⟩:=hyd8 hw ha hb sa sb hle0 kz q1;clear q1 kz hle0 sb sa hb ha hw;go_enter Tryz.func30,Tryz.ntmps30;go_wp2_with (fail);clear hW0;go_at_call 21;refine q1'.out.mono ?_;rintro e W1 ⟨v1,rfl,hle1,hf1⟩;have hlew1:=hle0'.out.trans hle1;have q2:=qDi b lb W1 (hw'.out.le hlew1) hb'.out sb'.out;have hf10:=hf1;obtain⟨A1,c1,B1,d1,rfl,-,-⟩:=hf1;have⟨hle1',hf10',hlew1',q2'⟩:=hyd4 hle1 hf10 hlew1 q2;clear q2 hlew1 hf10 hle1;go_wp2_with (fail);go_at_call 21;refine q2'.out.mono ?_;rintro e W2 ⟨v2,rfl,hle2,hf2⟩;have hf20:=hf2;obtain⟨A2,c2,B2,d2,rfl,-,-⟩:=hf2;have hf12:=FracL.le hf10'.out hle2;obtain⟨s1,hs1⟩:∃s,rneg a=s:=⟨_,rfl⟩;obtain⟨n1,hn1⟩:∃n,(dg (rnum a)).length =n:=⟨_,rfl⟩;obtain⟨m1,hm1⟩:∃n,(dg a.den).length =n:=⟨_,rfl⟩;obtain⟨s2,hs2⟩:∃s,rneg b=s:=⟨_,rfl⟩;obtain⟨n2,hn2⟩:∃n,(dg (rnum b)).length =n:=⟨_,rfl⟩;obtain⟨m2,hm2⟩:∃n,(dg b.den).length =n:=⟨_,rfl⟩;rw[hs1,hn1,hm1]at hf12 ⊢;rw[hs2,hn2,hm2]at hf20 ⊢;have kz2:=((hle1'.out.trans hle2).block _ (gsl kz'.out)).trans kz'.out;have hT:TurnF W2 (.agg #[.bool s1,.slice A1 n1 c1,.bool false,.slice B1 m1 d1,.bool s2,.slice A2 n2 c2,.bool false,.slice B2 m2 d2]) (a,b):=TurnF.mk hf12 hf20
 have hl9:=hlew1'.out.trans hle2;obtain⟨z0,z1,z2,z3,z4,z5,z6,z7⟩:=qA2 kz2;have⟨g0,g1,g2,g3,g4,g5,g6,g7⟩:=frz8 kz2;have hle9:=fun u0 u1 u2 u3 u4 u5 u6 u7=>qCF hl9 (Nat.le_refl w.heap.size) u0 u1 u2 u3 u4 u5 u6 u7;have hb9:=fun u0 u1 u2 u3 u4 u5 u6 u7=>qA2 (qB5 kz2 u0 u1 u2 u3 u4 u5 u6 u7);simp only[set8]at hb9;have hfin:=fun u0 u1 u2 u3 u4 u5 u6 u7=>(hT.touch (qCG kz2) (qAp W2 w.heap.size u0 u1 u2 u3 u4 u5 u6 u7)).isAV;have⟨hle2',hf12',hf20',hT',kz2',hl9',hle9',hb9'⟩:=hyd8 hle2 hf12 hf20 hT kz2 hl9 hle9 hb9;have⟨hfin',hs1',hn1',hm1',hs2',hn2',hm2'⟩:=hyd7 hfin hs1 hn1 hm1 hs2 hn2 hm2;clear hm2 hn2 hs2 hm1 hn1 hs1 hfin hb9 hle9 hl9 kz2 hT hf20 hf12 hle2;go_wp2;obtain⟨y0,y1,y2,y3,y4,y5,y6,y7⟩:=hb9'.out (.bool s1) (.slice A1 n1 c1) (.bool false) (.slice B1 m1 d1) (.bool s2) (.slice A2 n2 c2) (.bool false) (.slice B2 m2 d2);exact bodyPost_ret (v:= .agg #[.bool s1,.slice A1 n1 c1,.bool false,.slice B1 m1 d1,.bool s2,.slice A2 n2 c2,.bool false,.slice B2 m2 d2]) (by simp[results,Tryz.results30,go_sem,y0,y1,y2,y3,y4,y5,y6,y7]) rfl ⟨_,rfl,hle9'.out _ _ _ _ _ _ _ _,hfin'.out _ _ _ _ _ _ _ _⟩
end Go.Proofs.YtenjpccpldajoaaGreatDoor
