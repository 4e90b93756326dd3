/- Whole polynomials: shared, ratios, Gcd. (The region between --@ARM and --@END is printed by gen_poly.py.) -/
import Derived.Test.YtenjpccpldajoaaGreatDoorPk29
namespace Go.Proofs.YtenjpccpldajoaaGreatDoor
set_option maxRecDepth 100000
set_option maxHeartbeats 1000000
open Go.RowKit Go.Shelf
set_option linter.unusedVariables false
set_option linter.unusedSimpArgs false
theorem qG1:∀f a b,b.length=0→qAv f a b=a
 | 0,_,_,_=>rfl
 | f+1,a,b,h=>if_pos h
theorem qL8 {a b:List Int} {f:Nat} (hb:b.length≠0) (hf:b.length≤f):∃g,f=g+1∧qAv f a b=qAv g b (qA3 a b):=by
 obtain⟨g,rfl⟩:∃g,f=g+1:=⟨f - 1,by omega⟩;exact⟨g,rfl,if_neg hb⟩
theorem qOl {a b:List Int} {M:Nat} (hb:b.length≠0):M+(a.length+1 - b.length)*(M+1)≤Room a b M:=by
 by_cases hab:b.length≤a.length
 ·exact qMp hab
 ·rw[show a.length+1 - b.length=0 by omega,Nat.zero_mul];unfold Room;have h1:1≤3^min a.length b.length:=Nat.pow_pos (by decide);have h2:M+2≤3^min a.length b.length*(M+2):=Nat.le_mul_of_pos_left _ h1;have h3:3^min a.length b.length*(M+2)≤(max a.length b.length - min a.length b.length+2)*(3^min a.length b.length*(M+2)):=Nat.le_mul_of_pos_left _ (by omega);omega
theorem qMr {a b:List Int} {M:Nat}:M≤Room a b M:=by
 unfold Room;have h1:1≤3^min a.length b.length:=Nat.pow_pos (by decide);have h2:M+2≤3^min a.length b.length*(M+2):=Nat.le_mul_of_pos_left _ h1;have h3:3^min a.length b.length*(M+2)≤(max a.length b.length - min a.length b.length+2)*(3^min a.length b.length*(M+2)):=Nat.le_mul_of_pos_left _ (by omega);omega
theorem qE4 {R:Nat}:∀(f:Nat) (a b:List Int) (M:Nat),TopI a→TopI b→(∀x∈a,Isz x M)→(∀x∈b,Isz x M)→Room a b M≤R→a.length≤1000→b.length≤1000→TopI (qAv f a b)∧(∀x∈qAv f a b,Isz x R)∧(qAv f a b).length ≤1000
 | 0,a,b,M,ha,hb,sa,sb,hr,la,lb=>⟨ha,fun x hx=>(sa x hx).up (Nat.le_trans qMr hr),la⟩
 | f+1,a,b,M,ha,hb,sa,sb,hr,la,lb=>by
  by_cases h0:b.length=0
  ·rw[qG1 _ a b h0];exact⟨ha,fun x hx=>(sa x hx).up (Nat.le_trans qMr hr),la⟩
  ·rw[show qAv (f+1) a b=qAv f b (qA3 a b)from if_neg h0];obtain⟨N,s1,s2,hN⟩:=qI9 h0 sa sb;exact qE4 f b (qA3 a b) N hb (qCe ha) s1 s2 (Nat.le_trans hN hr) lb (by have:=qCA (a:=a) h0;omega)
theorem qIa (va vb:Value) (a b:List Int) (M:Nat) (w:World) (ha:RowE intK 156 0 w va a) (hb:RowE intK 156 0 w vb b) (hla:a.length≤1000) (hlb:b.length≤1000) (hta:TopI a) (htb:TopI b)
  (hsa:∀x∈a,Isz x M) (hsb:∀x∈b,Isz x M) (hM:Room a b M≤4000000):
  Calls Tryz.prog 96 #[va,vb] w fun e w'=>∃v',e= .returned v'∧Le w w'∧RowE intK 156 0 w' v' (qAt a b):=by
 have⟨ha',hb',hta',htb',hsa',hsb',hM',hla'⟩:=hyd8 ha hb hta htb hsa hsb hM hla;have hlb':=hyd1 hlb;clear hlb hla hM hsb hsa htb hta hb ha;go_enter Tryz.func96,Tryz.ntmps96;go_wp2_with (fail);go_loopw [0,1] (fun s t wr=>∃(A B:Option Addr) (c d n m f M:Nat) (x y:List Int),s= .slice A n c∧t= .slice B m d∧Hid (x.length=n)∧Hid (y.length=m)∧Hid (Below w.heap.size w wr)∧Hid (RowE intK 156 0 wr (.slice A n c) x)∧Hid (RowE intK 156 0 wr (.slice B m d) y)∧Hid (m≤f∧qAv f x y=qAt a b)∧Hid (TopI x∧TopI y)∧Hid ((∀z∈x,Isz z M)∧(∀z∈y,Isz z M)∧Room x y M≤4000000)∧Hid (n≤1000∧m≤1000)) (fun _ t _=>qC3 t)
 case atStart=>
  obtain⟨A,c,rfl⟩:=ha'.out.slice;obtain⟨B,d,rfl⟩:=hb'.out.slice;exact⟨A,B,c,d,_,_,b.length,M,a,b,rfl,rfl,Lib.hid rfl,Lib.hid rfl,Lib.hid (Below.refl _ _),ha',hb',Lib.hid ⟨Nat.le_refl _,rfl⟩,Lib.hid ⟨hta'.out,htb'.out⟩,Lib.hid ⟨hsa'.out,hsb'.out,hM'.out⟩,Lib.hid ⟨hla'.out,hlb'.out⟩⟩
 case round=>
  obtain⟨A,B,c,d,n,m,f,N,x,y,rfl,rfl,hn,hm,hbw,hx,hy,hf,ht,hs,hl⟩:=hrel
  by_cases h0:m=0
  ·have h1:=qG1 f x y (by rw[hm.out];exact h0);have hf2:=hf.out.2;rw[h1]at hf2;have hr9:=hx.out;rw[hf2]at hr9;have hb9:=hbw.out;have j1:¬(0:Int)<(m:Int):=by omega
   have⟨h1',hf2',hr9',hb9'⟩:=hyd4 h1 hf2 hr9 hb9;clear hb9 hr9 hf2 h1;subst h0;go_wp2;go_ret;exact⟨_,rfl,hb9'.out,hr9'.out⟩
  ·have hm0:y.length≠0:=by rw[hm.out];exact h0
   have kl:=qKo _ _ x y N wr hx.out hy.out (by rw[hn.out];exact hl.out.1) (by rw[hm.out];exact hl.out.2) hm0 ht.out.1 ht.out.2 hs.out.1 hs.out.2.1 (Nat.le_trans (qOl hm0) hs.out.2.2);obtain⟨g,hg,hfg⟩:=qL8 (a:=x) hm0 (by rw[hm.out];exact hf.out.1);obtain⟨N2,s1,s2,hN⟩:=qI9 hm0 hs.out.1 hs.out.2.1;have htl:=qCe (b:=y) ht.out.1;have hll:=qCA (a:=x) hm0;obtain⟨m2,hm2⟩:∃n,(qA3 x y).length =n:=⟨_,rfl⟩;rw[hm.out,hm2]at hll;have hf2:m2≤g∧qAv g y (qA3 x y)=qAt a b:=⟨by have:=hf.out.1;omega,by rw[←hfg];exact hf.out.2⟩;have hs2:(∀z∈y,Isz z N2)∧(∀z∈qA3 x y,Isz z N2)∧Room y (qA3 x y) N2≤4000000:=⟨s1,s2,Nat.le_trans hN hs.out.2.2⟩;have ht2:TopI y∧TopI (qA3 x y):=⟨ht.out.2,htl⟩;have hl2:m≤1000∧m2≤1000:=⟨hl.out.2,by have:=hl.out.2;omega⟩;have j1:(0:Int)<(m:Int):=by omega
   have j2:0<m:=by omega
   have⟨hn',hm',hbw',hx',hy',hf',ht',hs'⟩:=hyd8 hn hm hbw hx hy hf ht hs;have hl':=hyd1 hl;clear hl hs ht hf hy hx hbw hm hn;have⟨kl',hfg',s1',s2',hN',htl',hf2',hs2'⟩:=hyd8 kl hfg s1 s2 hN htl hf2 hs2;have ht2':=hyd1 ht2;clear ht2 hs2 hf2 htl hN s2 s1 hfg kl;have⟨hl2',hm2'⟩:=hyd2 hl2 hm2;clear hm2 hl2;go_wp2_with (fail);go_at_call 133;refine kl'.out.mono ?_;rintro e W4 ⟨v4,rfl,hle4,hr4⟩;obtain⟨A4,c4,rfl⟩:=hr4.slice;rw[hm2'.out]at hr4 ⊢;have r1:Below w.heap.size w W4:=hbw'.out.out.trans (hle4.mono hbw'.out.out.size);have r2:=hy'.out.out.le hle4;have⟨hle4',hr4',r1',r2'⟩:=hyd4 hle4 hr4 r1 r2;clear r2 r1 hr4 hle4;go_wp2;go_roundw
   case rel=>exact⟨B,A4,d,c4,m,m2,g,N2,y,qA3 x y,rfl,rfl,hm'.out,hm2',r1',r2',hr4',hf2',ht2',hs2',hl2'⟩
   case measure=>simp[qC3];omega
def ratC (p:List Int) (c:Int):Rat:=mkR (decide (c<0) != decide (qAH p<0)) c.natAbs (qAH p).natAbs
def qAz (p:List Int):List Rat:=p.map (ratC p)
theorem qOm {w W:World} {B:Nat} {t:TypeId} {s:Bool} {A1 A2:Option Addr} {n1 c1 n2 c2:Nat} {x y z:Value} {r:Rat} (hle:Le w W) (hB:w.heap.size≤B) (k:W.heap[B]? =some (.cells #[x,y,z] t)) (hx:NI .u32 x) (hy:NI .u32 y) (hz:NI .u32 z) (hr:RatL (fun _=>True) .u32 W (.agg #[.bool s,.slice A1 n1 c1,.slice A2 n2 c2]) r):
  Le w (((W.setCell ⟨B,0,none⟩ (.bool s)).setCell ⟨B,1,none⟩ (.slice A1 n1 c1)).setCell ⟨B,2,none⟩ (.slice A2 n2 c2))∧RatL (fun _=>True) .u32 (((W.setCell ⟨B,0,none⟩ (.bool s)).setCell ⟨B,1,none⟩ (.slice A1 n1 c1)).setCell ⟨B,2,none⟩ (.slice A2 n2 c2)) (.agg #[.bool s,.slice A1 n1 c1,.slice A2 n2 c2]) r∧
   (((W.setCell ⟨B,0,none⟩ (.bool s)).setCell ⟨B,1,none⟩ (.slice A1 n1 c1)).setCell ⟨B,2,none⟩ (.slice A2 n2 c2)).cell? ⟨B,0,none⟩=some (.bool s)∧(((W.setCell ⟨B,0,none⟩ (.bool s)).setCell ⟨B,1,none⟩ (.slice A1 n1 c1)).setCell ⟨B,2,none⟩ (.slice A2 n2 c2)).cell? ⟨B,1,none⟩=some (.slice A1 n1 c1)∧(((W.setCell ⟨B,0,none⟩ (.bool s)).setCell ⟨B,1,none⟩ (.slice A1 n1 c1)).setCell ⟨B,2,none⟩ (.slice A2 n2 c2)).cell? ⟨B,2,none⟩=some (.slice A2 n2 c2):=by
 have n0:NIB .u32 W B:=⟨_,_,k,fun u hu=>by simp at hu;rcases hu with rfl|rfl|rfl<;>assumption⟩;have hk:Kp .u32 W (((W.setCell ⟨B,0,none⟩ (.bool s)).setCell ⟨B,1,none⟩ (.slice A1 n1 c1)).setCell ⟨B,2,none⟩ (.slice A2 n2 c2)):=(((Kp.refl W).set n0 (qAV _)).set (qDa n0 (qAV _)) (qAK _ _ _)).set (qDa (qDa n0 (qAV _)) (qAK _ _ _)) (qAK _ _ _);have k2:=qA0 (u0:= .bool s) (u1:= .slice A1 n1 c1) (u2:= .slice A2 n2 c2) k;exact⟨qAg hle hB,hr.kp hk,cell_of_row _ B 0 _ _ _ k2,cell_of_row _ B 1 _ _ _ k2,cell_of_row _ B 2 _ _ _ k2⟩
theorem qL9 (p:List Int) (c:Int) (Bp:Nat) (tp:TypeId) (v vp:Value) (w:World) (kp:w.heap[Bp]? =some (.cells #[vp] tp)) (hp:RowE intK 156 0 w vp p) (hp0:p.length≠0) (hpl:p.length≤1000) (htp:TopI p) (hc:IntL w v c) (hsp:∀x∈p,Isz x 10000000) (hsc:Isz c 10000000):
  Calls Tryz.prog 138 #[v,.pointer (some ⟨Bp,0,none⟩)] w fun e w'=>∃v',e= .returned v'∧Le w w'∧RatL (fun _=>True) .u32 w' v' (ratC p c):=by
 obtain⟨A1,n1,c1,rfl,hn⟩:=hc;obtain⟨t,ht⟩:∃t,p.length=t+1:=⟨p.length - 1,by omega⟩;have htx:t<p.length:=by omega
 obtain⟨g,cp,rfl,-,hg,-,-,cs,hrd,hcl⟩:=hp.at htx;have hlt:p[t]=qAH p:=by unfold qAH;rw[List.getD_eq_getElem?_getD,show p.length - 1=t by omega,List.getElem?_eq_getElem htx];rfl
 have hlz:qAH p≠0:=htp hp0;have hsl:Isz (qAH p) 10000000:=by rw[←hlt];exact hsp _ (List.getElem_mem htx)
 rw[hlt]at hrd;obtain⟨A2,n2,c2,rfl,hlv⟩:=hrd;obtain⟨sl,hsl1⟩:∃s,decide (qAH p<0)=s:=⟨_,rfl⟩;obtain⟨sc,hsc1⟩:∃s,decide (c<0)=s:=⟨_,rfl⟩;rw[hsl1]at hcl;rw[hsc1];obtain⟨n,hnp⟩:∃n,p.length=n:=⟨_,rfl⟩;rw[hnp]at kp hp hp0 hpl;obtain⟨W1,hW1,hb1,k1⟩:=enew w (.cells #[.bool sc,.slice A1 n1 c1] 156);obtain⟨W2,hW2,hb2,k2⟩:=enew W1 (.cells #[.bool false,.slice none 0 0,.slice none 0 0] 70);obtain⟨W3,hW3,hb3,k3⟩:=enew W2 (.cells #[.bool sl,.slice A2 n2 c2] 156);have hle2:Le w W2:=hb1.trans (hb2.mono hb1.size);have hle3:Le w W3:=Le.trans hle2 hb3;have k13:=(hb3.block _ (gsl ((hb2.block _ (gsl k1)).trans k1))).trans ((hb2.block _ (gsl k1)).trans k1);have k23:=(hb3.block _ (gsl k2)).trans k2;obtain⟨x0,hx0⟩:∃x,w.heap.size=x:=⟨_,rfl⟩;obtain⟨x1,hx1⟩:∃x,W1.heap.size=x:=⟨_,rfl⟩;obtain⟨x2,hx2⟩:∃x,W2.heap.size=x:=⟨_,rfl⟩;rw[hx0]at k13;rw[hx1]at k23;rw[hx2]at k3;have hB:w.heap.size≤x1:=by have:=hb1.size;omega
 have kp2:=(hle2.block _ (gsl kp)).trans kp;have q0:W2.cell? ⟨Bp,0,none⟩=some (.slice (some ⟨g,0,none⟩) n cp):=cell_of_row W2 Bp 0 _ _ _ kp2;have g0:W2.cell? ⟨g,t*2,none⟩=some (.bool sl):=bcl hle2 hg (hcl 0 _ rfl);have g1:W2.cell? ⟨g,t*2+1,none⟩=some (.slice A2 n2 c2):=bcl hle2 hg (hcl 1 _ rfl);have p0:W3.cell? ⟨x0,0,none⟩=some (.bool sc):=cell_of_row W3 x0 0 _ _ _ k13;have p1:W3.cell? ⟨x0,1,none⟩=some (.slice A1 n1 c1):=cell_of_row W3 x0 1 _ _ _ k13;have r0:W3.cell? ⟨x2,0,none⟩=some (.bool sl):=cell_of_row W3 x2 0 _ _ _ k3;have r1:W3.cell? ⟨x2,1,none⟩=some (.slice A2 n2 c2):=cell_of_row W3 x2 1 _ _ _ k3;have kr:=qBp (fun _=>True) (!sc==sl) c.natAbs (qAH p).natAbs _ _ W3 (Up.any _) (hn.le hle3) (hlv.le hle3) (by omega) hsc hsl
 have hrc:mkR (!sc==sl) c.natAbs (qAH p).natAbs =ratC p c:=by
  unfold ratC;rw[hsl1,hsc1]
  cases sc<;>cases sl<;>rfl
 rw[hrc]at kr;have j1:(n:Int) - 1=(t:Int):=by omega
 have j2:(t:Int)<(n:Int):=by omega
 have j3:(0:Int)≤(t:Int):=by omega
 have⟨kp',hp',htp',hsp',hsc',hn',hlt',hlz'⟩:=hyd8 kp hp htp hsp hsc hn hlt hlz;have⟨hsl',hlv'⟩:=hyd2 hsl hlv;clear hlv hsl hlz hlt hn hsc hsp htp hp kp;have⟨hcl',hsl1',hsc1',hb1',k1',hb2',k2',hb3'⟩:=hyd8 hcl hsl1 hsc1 hb1 k1 hb2 k2 hb3;have⟨k3',hle2'⟩:=hyd2 k3 hle2;clear hle2 k3 hb3 k2 hb2 k1 hb1 hsc1 hsl1 hcl;have⟨hle3',k13',k23',kp2',kr',hrc',ht',hnp'⟩:=hyd8 hle3 k13 k23 kp2 kr hrc ht hnp;clear hnp ht hrc kr kp2 k23 k13 hle3;go_enter Tryz.func138,Tryz.ntmps138;go_wp2_with (fail);clear hW1 hW2 hW3;go_at_call 49;refine kr'.out.mono ?_;rintro e W4 ⟨v4,rfl,hle4,hr4⟩;obtain⟨s4,A4,n4,c4,B4,m4,d4,rfl⟩:=hr4.frm;have k24:=(hle4.block _ (gsl k23'.out)).trans k23'.out;have hle04:Le w W4:=(show Le w W3 from hle3'.out).trans hle4;obtain⟨z0,z1,z2,w0,w1,w2⟩:=qAD k24;obtain⟨u1,u2,d0,d1,d2⟩:=qOm hle04 hB k24 (qAV _) (qAK _ _ _) (qAK _ _ _) hr4;have⟨hle4',hr4',k24',hle04',u1',u2',d0',d1'⟩:=hyd8 hle4 hr4 k24 hle04 u1 u2 d0 d1;have d2':=hyd1 d2;clear d2 d1 d0 u2 u1 hle04 k24 hr4 hle4;go_wp2;have d0:=d0'.out;have d1:=d1'.out;have d2:=d2'.out;exact bodyPost_ret (v:= .agg #[.bool s4,.slice A4 n4 c4,.slice B4 m4 d4]) (by simp[results,Tryz.results138,go_sem,d0,d1,d2]) rfl ⟨_,rfl,u1'.out,u2'.out⟩
theorem qIw:qAF Tryz.prog 138:=fun _ _=>by kernel_rfl
theorem qLa (p:List Int) (c:Int) (Bp:Nat) (tp:TypeId) (vp:Value) (w:World) (kp:w.heap[Bp]? =some (.cells #[vp] tp)) (hp:RowE intK 156 0 w vp p) (hp0:p.length≠0) (hpl:p.length≤1000) (htp:TopI p) (hsp:∀x∈p,Isz x 10000000) (hsc:Isz c 10000000):
  ElOk Tryz.prog intK (ratK .u32) (fun c=> .ok (ratC p c)) 138 #[] #[.pointer (some ⟨Bp,0,none⟩)] w c:=by
 rintro cs ⟨A,n,d,rfl,hx⟩;refine(qL9 p c Bp tp _ vp w kp hp hp0 hpl htp ⟨A,n,d,rfl,hx⟩ hsp hsc).mono ?_;rintro e W' ⟨v',rfl,hle,hv⟩;obtain⟨s4,A4,n4,c4,B4,m4,d4,rfl⟩:=hv.frm;exact⟨hle,.inl ⟨_,_,rfl,rfl,_,_,_,_,_,_,_,rfl,hv⟩⟩
theorem qIb (p:List Int) (v:Value) (w:World) (hv:RowE intK 156 0 w v p) (hl:p.length≤1000) (htp:TopI p) (hsp:∀x∈p,Isz x 10000000):
  Calls Tryz.prog 95 #[v] w fun e w'=>∃v',e= .returned v'∧Le w w'∧RowE (ratK .u32) 70 w.heap.size w' v' (qAz p):=by
 obtain⟨A,c,rfl⟩:=hv.slice;obtain⟨n,hn⟩:∃n,p.length=n:=⟨_,rfl⟩;rw[hn]at hv hl ⊢;obtain⟨W1,hW1,hb1,k1⟩:=enew w (.cells #[.slice A n c] 132);obtain⟨x0,hx0⟩:∃x,w.heap.size=x:=⟨_,rfl⟩;rw[hx0]at k1;have q0:W1.cell? ⟨x0,0,none⟩=some (.slice A n c):=cell_of_row W1 x0 0 _ _ _ k1
 have hmp:=qM8 (fun c=> .ok (ratC p c)) 138 #[] #[.pointer (some ⟨x0,0,none⟩)] _ p W1 (hv.le hb1).seq (by omega) qIw fun W hW x hx=>
  qLa p x x0 132 (.slice A n c) W ((hW.block _ (gsl k1)).trans k1) ((hv.le hb1).le hW) (by have:=List.length_pos_of_mem hx;omega) (by omega) htp hsp (hsp x hx)
 have hme:mapE (fun c:Int=>(.ok (ratC p c):Except Int Rat)) p= .ok (qAz p):=qDD (g:=ratC p) fun x _=>rfl;rw[hme]at hmp;clear hme;have hmf:=mkf;have⟨hv',hn',htp',hsp',hb1',k1',hmp'⟩:=hyd7 hv hn htp hsp hb1 k1 hmp;clear hmp k1 hb1 hsp htp hn hv;go_enter Tryz.func95,Tryz.ntmps95;go_wp2_with (fail);clear hW1;go_at_call 137;refine hmp'.out.mono ?_;intro e W5 hE;obtain⟨v5,rfl,hle5,hr5⟩:=hE.ok;have hw5:Le w W5:=(show Le w W1 from hb1'.out).trans hle5;have hr6:=hr5.base (base':=w.heap.size) hb1'.out.size;have⟨hE',hle5',hr5',hw5',hr6'⟩:=hyd5 hE hle5 hr5 hw5 hr6;clear hr6 hw5 hr5 hle5 hE;go_wp2;go_ret;exact⟨_,rfl,hw5'.out,hr6'.out⟩
noncomputable def gcdP (p q:List FracA):Except Int (List Rat):=
 match qAc p with
 | .error z=> .error z
 | .ok x=>match qAc q with
  | .error z=> .error z
  | .ok y=>qDd (qAz (qAt (qAG x) (qAG y)))
theorem qPU {p q:List FracA} {z:Int} (h:addF p q= .error z):gcdP p q= .error z:=by
 unfold addF at h;unfold gcdP
 cases hx:qAc p with
 | error z1=>rw[hx]at h;injection h with h;subst h;rfl
 | ok x=>
  rw[hx]at h
  cases hy:qAc q with
  | error z1=>rw[hy]at h;injection h with h;subst h;rfl
  | ok y=>rw[hy]at h;cases h
def qIN (p q:List FracA):Prop:=∀x y,qAc p= .ok x→qAc q= .ok y→∃M,(∀z∈qAG x,Isz z M)∧(∀z∈qAG y,Isz z M)∧Room (qAG x) (qAG y) M≤4000000
theorem qCS (l:List Rat):(qAG l).length ≤l.length:=by
 unfold qAG;rw[qFo];exact Nat.le_trans (qE2 _ _) (by rw[List.length_map];exact Nat.le_refl _)
theorem qOn (L:Nat→Prop) (p q:List FracA) (vp vq:Value) (Bp Bq:Nat) (tp tq:TypeId) (w:World) (hroom:qIN p q) (hL:Up w L) (kp:w.heap[Bp]? =some (.cells #[vp] tp)) (kq:w.heap[Bq]? =some (.cells #[vq] tq)) (hp:SeqE inK w vp p) (hq:SeqE inK w vq q):
  Calls Tryz.prog 94 #[.pointer (some ⟨Bp,0,none⟩),.pointer (some ⟨Bq,0,none⟩)] w (MapPost (frK L) 26 w (gcdP p q)):=by
 obtain⟨res,hres⟩:∃r,gcdP p q=r:=⟨_,rfl⟩;rw[hres];have hpl:=gsl kp;have hql:=gsl kq;have⟨hL',kp',kq',hp',hq',hres',hroom'⟩:=hyd7 hL kp kq hp hq hres hroom;clear hroom hres hq hp kq kp hL;go_enter Tryz.func94,Tryz.ntmps94;go_wp2_with (fail);refine qB3 (R:=leRel) 4 [some 5,some 6,some 7,some 8,some 3,some 4] [[],[0],[],[1,2],[1],[3]]
  [.eq vp,MPred.poly w.heap.size p,.eq vq,MPred.poly w.heap.size q] GTwo (fun ch W=>Le w W∧∃z,addF p q= .error z∧ch=flt z) (by kernel_rfl) (by kernel_rfl) (by kernel_rfl) (by kernel_rfl) (by kernel_rfl) GTwo.start ?_ ?_ ?_
 ·simp only[List.take_succ_cons,List.take_zero];refine sGc rfl ?_ (sGc rfl ?_ (sGc rfl ?_ (sGc rfl ?_ (qAR))))
  ·intro Dn xv W hD hdp hR hf hG Q hK hP;have cc:=(Below.cell hR (p:=⟨Bp,0,none⟩) hpl).trans (cell_of_row w Bp 0 _ _ _ kp'.out);have cc:W.cell? ⟨Bp,0,none⟩=some vp:=cc;simp only[fA]at hK ⊢;go_wp2;exact hK _ _ lrR rfl (hG.keep (by decide) (by decide))
  ·intro Dn xv W hD hdp hR hf hG Q hK hP;obtain⟨e0,-⟩:=hf;change _=_ at e0;have kc:=qEe _ p W (hp'.out.le hR);simp only[fA,e0]at hK ⊢;have⟨kc',hG',hR'⟩:=hyd3 kc hG hR;clear hR hG kc;go_wp2_with (fail);go_at_call 73;refine kc'.out.mono ?_;rintro e w' ⟨y1,⟨xs,v,y2,rfl,y3⟩| ⟨z,y2,rfl⟩⟩
   ·have y4:=y3.base (base':=w.heap.size) hR'.out.size;have⟨y1',y2',y3',y4'⟩:=hyd4 y1 y2 y3 y4;clear y4 y3 y2 y1;go_wp2;exact hK _ _ y1'.out ⟨xs,y2'.out,y4'.out⟩ (hG'.out.one hD)
   ·have y4:Le w w':=hR'.out.trans y1;have⟨y1',y2',y4'⟩:=hyd3 y1 y2 y4;clear y4 y2 y1;go_wp2_with (fail);exact hP _ _ _ ⟨y4'.out,z,qNi y2'.out,rfl⟩
  ·intro Dn xv W hD hdp hR hf hG Q hK hP;have cc:=(Below.cell hR (p:=⟨Bq,0,none⟩) hql).trans (cell_of_row w Bq 0 _ _ _ kq'.out);have cc:W.cell? ⟨Bq,0,none⟩=some vq:=cc;simp only[fA]at hK ⊢;go_wp2;exact hK _ _ lrR rfl (hG.keep (by decide) (by decide))
  ·intro Dn xv W hD hdp hR hf hG Q hK hP;obtain⟨e0,e1,-⟩:=hf;change _=_ at e1;have d1:=hdp 1 (by decide);replace e0:∃xs,qAc p= .ok xs∧RowE (ratK .u32) 70 w.heap.size W (xv 1) xs:=e0;have kc:=qEe _ q W (hq'.out.le hR);simp only[fA,e1]at hK ⊢;have⟨kc',hG',hR',e0'⟩:=hyd4 kc hG hR e0;clear e0 hR hG kc;go_wp2_with (fail);go_at_call 73;refine kc'.out.mono ?_;rintro e w' ⟨y1,⟨xs,v,y2,rfl,y3⟩| ⟨z,y2,rfl⟩⟩
   ·have y4:=y3.base (base':=w.heap.size) hR'.out.size
    have y5:∀g,v.ownBlock=some g→(xv 1).ownBlock ≠some g:=fun g h1 h2=>by
     obtain⟨xs0,-,h3⟩:=e0'.out;have h4:=(h3.nib h2).2.1;have h5:=(y3.nib h1).1;omega
    have⟨y1',y2',y3',y4',y5'⟩:=hyd5 y1 y2 y3 y4 y5;clear y5 y4 y3 y2 y1;go_wp2;exact hK _ _ y1'.out ⟨xs,y2'.out,y4'.out⟩ (GTwo.two d1 y5'.out)
   ·have y4:Le w w':=hR'.out.trans y1;obtain⟨xs0,h3,-⟩:=e0'.out;have y5:=qNj h3 y2;have⟨y1',y2',y4',y5',h3'⟩:=hyd5 y1 y2 y4 y5 h3;clear h3 y5 y4 y2 y1;go_wp2_with (fail);exact hP _ _ _ ⟨y4'.out,z,y5'.out,rfl⟩
 ·rintro a9 ch W9 hdf ⟨hle9,z,hz,rfl⟩;exact⟨hdf,hle9,.inr ⟨z,by rw[←hres'.out];exact qPU hz,rfl⟩⟩
 intro D xv W hD hR hf hG Q' hQ1 _;obtain⟨X,hx1,hxr⟩:=hf 1 (by decide);obtain⟨Y,hy1,hyr⟩:=hf 3 (by decide);have hne:=hG.2 (hD 3 (by decide));simp only[List.drop_succ_cons,List.drop_zero];rw[show List.range 4=[0,1,2,3]from rfl];simp only[fA];clear hf hG;obtain⟨vx,hvx⟩:∃v,xv 1=v:=⟨_,rfl⟩;obtain⟨vy,hvy⟩:∃v,xv 3=v:=⟨_,rfl⟩;rw[hvx]at hxr hne ⊢;rw[hvy]at hyr hne ⊢;clear hvx hvy hD;have⟨hx1',hy1',hxr',hyr',hne',hR'⟩:=hyd6 hx1 hy1 hxr hyr hne hR;clear hR hne hyr hxr hy1 hx1;go_wp2;refine hQ1 _ _ ?_;clear hQ1;have hx1:=hx1'.out;have hy1:=hy1'.out;have hxr:=hxr'.out;have hyr:=hyr'.out;have hne:=hne'.out;have hR:=hR'.out;clear hx1' hy1' hxr' hyr' hne' hR';have hres9:=hres'.out;unfold gcdP at hres9;rw[hx1,hy1]at hres9;dsimp only at hres9;obtain⟨x65,xsz,-⟩:=qCD hx1;obtain⟨y65,ysz,-⟩:=qCD hy1;obtain⟨M,m1,m2,m3⟩:=hroom'.out X Y hx1 hy1;have kx:=qGu w.heap.size vx X W hxr (by omega) xsz;have hb0:Below w.heap.size w W:=hR;have hxt:TopI (qAG X):=qAn _;have hyt:TopI (qAG Y):=qAn _;have hxl:=qCS X;have hyl:=qCS Y;obtain⟨PX,hPX⟩:∃l,qAG X=l:=⟨_,rfl⟩;obtain⟨PY,hPY⟩:∃l,qAG Y=l:=⟨_,rfl⟩;rw[hPX]at hres9 kx hxt hxl m1 m3;rw[hPY]at hres9 hyt hyl m2 m3;obtain⟨s1,s2,s3⟩:=qE4 PY.length PX PY M hxt hyt m1 m2 m3 (by omega) (by omega);obtain⟨SH,hSH⟩:∃l,qAt PX PY=l:=⟨_,rfl⟩;change TopI (qAt PX PY)at s1;change ∀x∈qAt PX PY,_ at s2;change (qAt PX PY).length ≤_ at s3
 rw[hSH]at hres9 s1 s2 s3;have⟨hx1',hy1',hxr',hyr',hne',hR',hres9',xsz'⟩:=hyd8 hx1 hy1 hxr hyr hne hR hres9 xsz;have⟨ysz',kx'⟩:=hyd2 ysz kx;clear kx ysz xsz hres9 hR hne hyr hxr hy1 hx1;have⟨hb0',hxt',hyt',hPX',hPY',s1',s2',hSH'⟩:=hyd8 hb0 hxt hyt hPX hPY s1 s2 hSH;have⟨m1',m2'⟩:=hyd2 m1 m2;clear m2 m1 hSH s2 s1 hPY hPX hyt hxt hb0;have m3':=hyd1 m3;clear m3;go_wp2_with (fail);go_at_call 97;refine kx'.out.mono ?_;rintro e W1 ⟨v1,rfl,hle1,hr1⟩;have ky:=qGu w.heap.size vy Y W1 (hyr'.out.le hle1) (by omega) ysz'.out;rw[hPY'.out]at ky;have⟨hle1',hr1',ky'⟩:=hyd3 hle1 hr1 ky;clear ky hr1 hle1;go_wp2_with (fail);go_at_call 97;refine ky'.out.mono ?_;rintro e W2 ⟨v2,rfl,hle2,hr2⟩;have ks:=qIa v1 v2 PX PY M W2 ((hr1'.out.le hle2).base (Nat.zero_le _)) (hr2.base (Nat.zero_le _)) (by omega) (by omega) hxt'.out hyt'.out m1'.out m2'.out m3'.out;rw[hSH'.out]at ks;have⟨hle2',hr2',ks'⟩:=hyd3 hle2 hr2 ks;clear ks hr2 hle2;go_wp2_with (fail);go_at_call 96;refine ks'.out.mono ?_;rintro e W3 ⟨v3,rfl,hle3,hr3⟩;have kr:=qIb SH v3 W3 hr3 s3 s1'.out (fun x hx=>(s2'.out x hx).up (by decide));have⟨hle3',hr3',kr'⟩:=hyd3 hle3 hr3 kr;clear kr hr3 hle3;go_wp2_with (fail);go_at_call 95;refine kr'.out.mono ?_;rintro e W4 ⟨v4,rfl,hle4,hr4⟩;have hb4:Below w.heap.size w W4:=hb0'.out.trans (((hle1'.out.trans (hle2'.out.trans (hle3'.out.trans hle4)))).mono hb0'.out.size);have ko:=qLZ L v4 _ W4 (hL'.out.later hb4.size) hr4.seq;have⟨hle4',hr4',ko',hb4'⟩:=hyd4 hle4 hr4 ko hb4
 clear hb4 ko hr4 hle4;go_wp2_with (fail);go_at_call 75;refine ko'.out.mono ?_;rintro e W5 ⟨hle5,⟨ys,v5,hy,rfl,hrow5⟩| ⟨z,hz,rfl⟩⟩
 ·have hb5:Le w W5:=hb4'.out.trans (hle5.mono hb4'.out.size);have hrow6:=hrow5.base (base':=w.heap.size) hb4'.out.size;have hrr:=hres9'.out.symm.trans hy;have⟨hle5',hy',hrow5',hb5',hrow6',hrr'⟩:=hyd6 hle5 hy hrow5 hb5 hrow6 hrr;clear hrr hrow6 hb5 hrow5 hy hle5;go_wp2;go_ret;exact⟨hb5'.out,.inl ⟨ys,_,hrr'.out,rfl,hrow6'.out⟩⟩
 ·have hb5:Le w W5:=hb4'.out.trans (hle5.mono hb4'.out.size);have hrr:=hres9'.out.symm.trans hz;have⟨hle5',hz',hb5',hrr'⟩:=hyd4 hle5 hz hb5 hrr;clear hrr hb5 hz hle5;go_wp2_with (fail);exact⟨rfl,hb5'.out,.inr ⟨z,hrr'.out,rfl⟩⟩
theorem qLb:qAF Tryz.prog 94:=fun _ _=>by kernel_rfl
theorem qPV (L:Nat→Prop) (p q:List FracA) (vp vq:Value) (w:World) (hroom:qIN p q) (hL:Up w L) (hp:SeqE inK w vp p) (hq:SeqE inK w vq q):Calls Tryz.prog 34 #[vp,vq] w (qGq L (gcdP p q) w):=by
 have hmf:=mkf;obtain⟨res,hres⟩:∃r,gcdP p q=r:=⟨_,rfl⟩;have hp0:=hp;have hq0:=hq;obtain⟨A1,c1,rfl,-⟩:=hp.slice;obtain⟨A2,c2,rfl,-⟩:=hq.slice;obtain⟨W1,hW1,hb1,k1⟩:=enew w (.cells #[.slice A1 p.length c1] 45);obtain⟨W2,hW2,hb2,k2⟩:=enew W1 (.cells #[.slice A2 q.length c2] 45);have hb02:=hb1.trans (hb2.mono hb1.size);have k12:=(hb2.block _ (gsl k1)).trans k1;have l1:=gsl k12;have l2:=gsl k2
 have hrun:=qMm L res 94 #[.pointer (some ⟨w.heap.size,0,none⟩),.pointer (some ⟨W1.heap.size,0,none⟩)] W2 qLb fun W hW _=>by
  have h:=qOn L p q _ _ _ _ _ _ W hroom (hL.later (Nat.le_trans hb02.size hW.size)) ((hW.block _ l1).trans k12) ((hW.block _ l2).trans k2) (hp0.le (hb02.trans (hW.mono hb02.size))) (hq0.le (hb02.trans (hW.mono hb02.size)));rw[hres]at h;exact h
 rw[hres];have⟨hL',hp0',hq0',hp',hq',hb1',hb2',hb02'⟩:=hyd8 hL hp0 hq0 hp hq hb1 hb2 hb02;have⟨k1',k2',k12',hrun',hres',hroom'⟩:=hyd6 k1 k2 k12 hrun hres hroom;clear hroom hres hrun k12 k2 k1 hb02 hb2 hb1 hq hp hq0 hp0 hL;go_enter Tryz.func34,Tryz.ntmps34;go_wp2_with (fail);clear hW1 hW2;go_at_call 76;refine hrun'.out.mono ?_;rintro e W3 ⟨hle,v,c,rfl,hr⟩;have hle3:Le w W3:=(show Le w W2 from hb02'.out).trans hle
 have hfin:qGq L res w (.returned (.tuple #[v,.int .i64 c])) W3:=⟨hle3,v,c,rfl,by
  cases res with
  | ok ys=>exact⟨hr.1.base hb02'.out.size,hr.2⟩
  | error z=>exact hr⟩
 have⟨hle',hle3',hfin',hr'⟩:=hyd4 hle hle3 hfin hr;clear hr hfin hle3 hle;go_wp2;go_ret2;exact hfin'.out
end Go.Proofs.YtenjpccpldajoaaGreatDoor
