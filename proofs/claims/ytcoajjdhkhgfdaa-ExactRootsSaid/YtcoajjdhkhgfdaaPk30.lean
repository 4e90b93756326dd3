/- Whole polynomials: shared, ratios, Gcd. (The region between --@ARM and --@END is printed by gen_poly.py.) -/
import Derived.Test.YtcoajjdhkhgfdaaPk29
namespace Go.Proofs.Ytcoajjdhkhgfdaa
set_option maxRecDepth 100000
set_option maxHeartbeats 1000000
open Go.RowKit Go.Shelf
set_option linter.unusedVariables false
set_option linter.unusedSimpArgs false
theorem qF5:∀f a b,b.length=0->qAi f a b=a
 | 0,_,_,_=>rfl
 | f+1,a,b,h=>if_pos h
theorem qJ4 {a b:List Int} {f:Nat} (hb:b.length≠0) (hf:b.length<=f):∃g,f=g+1/\qAi f a b=qAi g b (qAY a b):=by
 obtain⟨g,rfl⟩:∃g,f=g+1:=⟨f - 1,by omega⟩;exact⟨g,rfl,if_neg hb⟩
theorem qLi {a b:List Int} {M:Nat} (hb:b.length≠0):M+(a.length+1 - b.length)*(M+1)<=Room a b M:=by
 by_cases c:b.length<=a.length
 ·exact qKS c
 ·rw[show a.length+1 - b.length=0 by omega,Nat.zero_mul];unfold Room;have d:1<=3^min a.length b.length:=Nat.pow_pos (by decide);have f:M+2<=3^min a.length b.length*(M+2):=Nat.le_mul_of_pos_left _ d;have g:3^min a.length b.length*(M+2)<=(max a.length b.length - min a.length b.length+2)*(3^min a.length b.length*(M+2)):=Nat.le_mul_of_pos_left _ (by omega);omega
theorem qKU {a b:List Int} {M:Nat}:M<=Room a b M:=by
 unfold Room;have c:1<=3^min a.length b.length:=Nat.pow_pos (by decide);have d:M+2<=3^min a.length b.length*(M+2):=Nat.le_mul_of_pos_left _ c;have f:3^min a.length b.length*(M+2)<=(max a.length b.length - min a.length b.length+2)*(3^min a.length b.length*(M+2)):=Nat.le_mul_of_pos_left _ (by omega);omega
theorem qFC {R:Nat}:∀(f:Nat) (a b:List Int) (M:Nat),TopI a->TopI b->(∀x∈a,Isz x M)->(∀x∈b,Isz x M)->Room a b M<=R->a.length<=1000->b.length<=1000->TopI (qAi f a b)/\(∀x∈qAi f a b,Isz x R)/\(qAi f a b).length <=1000
 | 0,a,b,M,ha,hb,sa,sb,hr,la,lb=>⟨ha,λx hx=>(sa x hx).up (Nat.le_trans qKU hr),la⟩
 | f+1,a,b,M,ha,hb,sa,sb,hr,la,lb=>by
  by_cases h0:b.length=0
  ·rw[qF5 _ a b h0];exact⟨ha,λx hx=>(sa x hx).up (Nat.le_trans qKU hr),la⟩
  ·rw[show qAi (f+1) a b=qAi f b (qAY a b)from if_neg h0];obtain⟨N,s1,s2,hN⟩:=qHS h0 sa sb;exact qFC f b (qAY a b) N hb (qBn ha) s1 s2 (Nat.le_trans hN hr) lb (by have:=qBg (a:=a) h0;omega)
theorem qKV (va vb:Value) (a b:List Int) (M:Nat) (w:World) (ha:RowE intK 84 0 w va a) (hb:RowE intK 84 0 w vb b) (hla:a.length<=1000) (hlb:b.length<=1000) (hta:TopI a) (htb:TopI b)
  (hsa:∀x∈a,Isz x M) (hsb:∀x∈b,Isz x M) (hM:Room a b M<=4000000):
  Calls Try.prog 38 #[va,vb] w λe w'=>∃v',e= .returned v'/\Le w w'/\RowE intK 84 0 w' v' (qBI a b):=by
 have⟨J,L,ad,ae,Z,aa,aj,S⟩:=hyd8 ha hb hta htb hsa hsb hM hla;have T:=hyd1 hlb;clear hlb hla hM hsb hsa htb hta hb ha;go_enter Try.func38,Try.ntmps38;go_wp2_with (fail);go_loopw [0,1] (λs t wr=>∃(A B:Option Addr) (c d n m f M:Nat) (x y:List Int),s= .slice A n c/\t= .slice B m d/\Hid (x.length=n)/\Hid (y.length=m)/\Hid (Below w.heap.size w wr)/\Hid (RowE intK 84 0 wr (.slice A n c) x)/\Hid (RowE intK 84 0 wr (.slice B m d) y)/\Hid (m<=f/\qAi f x y=qBI a b)/\Hid (TopI x/\TopI y)/\Hid ((∀z∈x,Isz z M)/\(∀z∈y,Isz z M)/\Room x y M<=4000000)/\Hid (n<=1000/\m<=1000)) (λ_ t _=>qBa t)
 case atStart=>
  obtain⟨A,c,rfl⟩:=J.out.slice;obtain⟨B,d,rfl⟩:=L.out.slice;exact⟨A,B,c,d,_,_,b.length,M,a,b,rfl,rfl,Lib.hid rfl,Lib.hid rfl,Lib.hid (Below.refl _ _),J,L,Lib.hid ⟨Nat.le_refl _,rfl⟩,Lib.hid ⟨ad.out,ae.out⟩,Lib.hid ⟨Z.out,aa.out,aj.out⟩,Lib.hid ⟨S.out,T.out⟩⟩
 case round=>
  obtain⟨A,B,c,d,n,m,f,N,x,y,rfl,rfl,hn,C,r,hx,hy,G,I,q,H⟩:=hrel
  by_cases h0:m=0
  ·have h1:=qF5 f x y (by rw[C.out];exact h0);have h:=G.out.2;rw[h1]at h;have E:=hx.out;rw[h]at E;have O:=r.out;have j1:¬(0:Int)<(m:Int):=by omega
   have⟨a7,o,V,P⟩:=hyd4 h1 h E O;clear O E h h1;subst h0;go_wp2;go_ret;exact⟨_,rfl,P.out,V.out⟩
  ·have j:y.length≠0:=by rw[C.out];exact h0
   have kl:=qIw _ _ x y N wr hx.out hy.out (by rw[hn.out];exact H.out.1) (by rw[C.out];exact H.out.2) j I.out.1 I.out.2 q.out.1 q.out.2.1 (Nat.le_trans (qLi j) q.out.2.2);obtain⟨g,hg,v⟩:=qJ4 (a:=x) j (by rw[C.out];exact G.out.1);obtain⟨N2,s1,s2,hN⟩:=qHS j q.out.1 q.out.2.1;have F:=qBn (b:=y) I.out.1;have am:=qBg (a:=x) j;obtain⟨m2,D⟩:∃n,(qAY x y).length =n:=⟨_,rfl⟩;rw[C.out,D]at am;have h:m2<=g/\qAi g y (qAY x y)=qBI a b:=⟨by have:=G.out.1;omega,by rw[<-v];exact G.out.2⟩;have X:(∀z∈y,Isz z N2)/\(∀z∈qAY x y,Isz z N2)/\Room y (qAY x y) N2<=4000000:=⟨s1,s2,Nat.le_trans hN q.out.2.2⟩;have ab:TopI y/\TopI (qAY x y):=⟨I.out.2,F⟩;have Q:m<=1000/\m2<=1000:=⟨H.out.2,by have:=H.out.2;omega⟩;have j1:(0:Int)<(m:Int):=by omega
   have j2:0<m:=by omega
   have⟨aB,an,l,aE,aq,a9,aD,aC⟩:=hyd8 hn C r hx hy G I q;have aA:=hyd1 H;clear H q I G hy hx r C hn;have⟨ar,az,aG,aH,a8,a0,o,Y⟩:=hyd8 kl v s1 s2 hN F h X;have ac:=hyd1 ab;clear ab X h F hN s2 s1 v kl;have⟨R,p⟩:=hyd2 Q D;clear D Q;go_wp2_with (fail);go_at_call 40;refine ar.out.mono ?_;rintro e W4 ⟨v4,rfl,i,k⟩;obtain⟨A4,c4,rfl⟩:=k.slice;rw[p.out]at k ⊢;have r1:Below w.heap.size w W4:=l.out.out.trans (i.mono l.out.out.size);have r2:=aq.out.out.le i;have⟨al,U,av,aw⟩:=hyd4 i k r1 r2;clear r2 r1 k i;go_wp2;go_roundw
   case rel=>exact⟨B,A4,d,c4,m,m2,g,N2,y,qAY x y,rfl,rfl,an.out,p,av,aw,U,o,ac,Y,R⟩
   case measure=>simp[qBa];omega
def ratC (p:List Int) (c:Int):Rat:=mkR (decide (c<0) != decide (qAC p<0)) c.natAbs (qAC p).natAbs
def qAv (p:List Int):List Rat:=p.map (ratC p)
theorem qLj {w W:World} {B:Nat} {t:TypeId} {s:Bool} {A1 A2:Option Addr} {n1 c1 n2 c2:Nat} {x y z:Value} {r:Rat} (hle:Le w W) (hB:w.heap.size<=B) (k:W.heap[B]? =some (.cells #[x,y,z] t)) (hx:NI .u32 x) (hy:NI .u32 y) (hz:NI .u32 z) (hr:RatL (λ_=>True) .u32 W (.agg #[.bool s,.slice A1 n1 c1,.slice A2 n2 c2]) r):
  Le w (((W.setCell ⟨B,0,none⟩ (.bool s)).setCell ⟨B,1,none⟩ (.slice A1 n1 c1)).setCell ⟨B,2,none⟩ (.slice A2 n2 c2))/\RatL (λ_=>True) .u32 (((W.setCell ⟨B,0,none⟩ (.bool s)).setCell ⟨B,1,none⟩ (.slice A1 n1 c1)).setCell ⟨B,2,none⟩ (.slice A2 n2 c2)) (.agg #[.bool s,.slice A1 n1 c1,.slice A2 n2 c2]) r∧
   (((W.setCell ⟨B,0,none⟩ (.bool s)).setCell ⟨B,1,none⟩ (.slice A1 n1 c1)).setCell ⟨B,2,none⟩ (.slice A2 n2 c2)).cell? ⟨B,0,none⟩=some (.bool s)/\(((W.setCell ⟨B,0,none⟩ (.bool s)).setCell ⟨B,1,none⟩ (.slice A1 n1 c1)).setCell ⟨B,2,none⟩ (.slice A2 n2 c2)).cell? ⟨B,1,none⟩=some (.slice A1 n1 c1)/\(((W.setCell ⟨B,0,none⟩ (.bool s)).setCell ⟨B,1,none⟩ (.slice A1 n1 c1)).setCell ⟨B,2,none⟩ (.slice A2 n2 c2)).cell? ⟨B,2,none⟩=some (.slice A2 n2 c2):=by
 have c:NIB .u32 W B:=⟨_,_,k,λu d=>by simp at d;rcases d with rfl|rfl|rfl<;>assumption⟩;have f:Kp .u32 W (((W.setCell ⟨B,0,none⟩ (.bool s)).setCell ⟨B,1,none⟩ (.slice A1 n1 c1)).setCell ⟨B,2,none⟩ (.slice A2 n2 c2)):=(((Kp.refl W).set c (qAO _)).set (qBy c (qAO _)) (qAF _ _ _)).set (qBy (qBy c (qAO _)) (qAF _ _ _)) (qAF _ _ _);have b:=qAR (u0:= .bool s) (u1:= .slice A1 n1 c1) (u2:= .slice A2 n2 c2) k;exact⟨qAb hle hB,hr.kp f,cell_of_row _ B 0 _ _ _ b,cell_of_row _ B 1 _ _ _ b,cell_of_row _ B 2 _ _ _ b⟩
theorem qJ5 (p:List Int) (c:Int) (Bp:Nat) (tp:TypeId) (v vp:Value) (w:World) (kp:w.heap[Bp]? =some (.cells #[vp] tp)) (hp:RowE intK 84 0 w vp p) (hp0:p.length≠0) (hpl:p.length<=1000) (htp:TopI p) (hc:IntL w v c) (hsp:∀x∈p,Isz x 10000000) (hsc:Isz c 10000000):
  Calls Try.prog 72 #[v,.pointer (some ⟨Bp,0,none⟩)] w λe w'=>∃v',e= .returned v'/\Le w w'/\RatL (λ_=>True) .u32 w' v' (ratC p c):=by
 obtain⟨A1,n1,c1,rfl,hn⟩:=hc;obtain⟨t,ht⟩:∃t,p.length=t+1:=⟨p.length - 1,by omega⟩;have I:t<p.length:=by omega
 obtain⟨g,cp,rfl,-,hg,-,-,cs,P,q⟩:=hp.at I;have y:p[t]=qAC p:=by unfold qAC;rw[List.getD_eq_getElem?_getD,show p.length - 1=t by omega,List.getElem?_eq_getElem I];rfl
 have O:qAC p≠0:=htp hp0;have H:Isz (qAC p) 10000000:=by rw[<-y];exact hsp _ (List.getElem_mem I)
 rw[y]at P;obtain⟨Z,n2,c2,rfl,E⟩:=P;obtain⟨N,j⟩:∃s,decide (qAC p<0)=s:=⟨_,rfl⟩;obtain⟨sc,i⟩:∃s,decide (c<0)=s:=⟨_,rfl⟩;rw[j]at q;rw[i];obtain⟨n,F⟩:∃n,p.length=n:=⟨_,rfl⟩;rw[F]at kp hp hp0 hpl;obtain⟨W1,ae,l,M⟩:=enew w (.cells #[.bool sc,.slice A1 n1 c1] 84);obtain⟨C,af,m,V⟩:=enew W1 (.cells #[.bool false,.slice none 0 0,.slice none 0 0] 57);obtain⟨k,ag,o,Q⟩:=enew C (.cells #[.bool N,.slice Z n2 c2] 84);have b:Le w C:=l.trans (m.mono l.size);have f:Le w k:=Le.trans b o;have r:=(o.block _ (gsl ((m.block _ (gsl M)).trans M))).trans ((m.block _ (gsl M)).trans M);have J:=(o.block _ (gsl V)).trans V;obtain⟨X,am⟩:∃x,w.heap.size=x:=⟨_,rfl⟩;obtain⟨x1,an⟩:∃x,W1.heap.size=x:=⟨_,rfl⟩;obtain⟨Y,ao⟩:∃x,C.heap.size=x:=⟨_,rfl⟩;rw[am]at r;rw[an]at J;rw[ao]at Q;have hB:w.heap.size<=x1:=by have:=l.size;omega
 have L:=(b.block _ (gsl kp)).trans kp;have q0:C.cell? ⟨Bp,0,none⟩=some (.slice (some ⟨g,0,none⟩) n cp):=cell_of_row C Bp 0 _ _ _ L;have g0:C.cell? ⟨g,t*2,none⟩=some (.bool N):=bcl b hg (q 0 _ rfl);have g1:C.cell? ⟨g,t*2+1,none⟩=some (.slice Z n2 c2):=bcl b hg (q 1 _ rfl);have p0:k.cell? ⟨X,0,none⟩=some (.bool sc):=cell_of_row k X 0 _ _ _ r;have p1:k.cell? ⟨X,1,none⟩=some (.slice A1 n1 c1):=cell_of_row k X 1 _ _ _ r;have r0:k.cell? ⟨Y,0,none⟩=some (.bool N):=cell_of_row k Y 0 _ _ _ Q;have r1:k.cell? ⟨Y,1,none⟩=some (.slice Z n2 c2):=cell_of_row k Y 1 _ _ _ Q;have kr:=qCR (λ_=>True) (!sc==N) c.natAbs (qAC p).natAbs _ _ k (Up.any _) (hn.le f) (E.le f) (by omega) hsc H
 have G:mkR (!sc==N) c.natAbs (qAC p).natAbs =ratC p c:=by
  unfold ratC;rw[j,i]
  cases sc<;>cases N<;>rfl
 rw[G]at kr;have j1:(n:Int) - 1=(t:Int):=by omega
 have j2:(t:Int)<(n:Int):=by omega
 have j3:(0:Int)<=(t:Int):=by omega
 have⟨aW,aR,aE,aC,aA,aQ,a4,a6⟩:=hyd8 kp hp htp hsp hsc hn y O;have⟨aB,a5⟩:=hyd2 H E;clear E H O y hn hsc hsp htp hp kp;have⟨a2,al,ak,az,aT,a0,aU,a1⟩:=hyd8 q j i l M m V o;have⟨aV,ah⟩:=hyd2 Q b;clear b Q o V m M l i j q;have⟨D,aF,B,aH,aq,a9,aS,a7⟩:=hyd8 f r J L kr G ht F;clear F ht G kr L J r f;go_enter Try.func72,Try.ntmps72;go_wp2_with (fail);clear ae af ag;go_at_call 73;refine aq.out.mono ?_;rintro e W4 ⟨v4,rfl,h,z⟩;obtain⟨s4,A4,n4,c4,B4,m4,d4,rfl⟩:=z.frm;have A:=(h.block _ (gsl B.out)).trans B.out;have d:Le w W4:=(show Le w k from D.out).trans h;obtain⟨z0,z1,z2,w0,w1,w2⟩:=qAB A;obtain⟨u1,u2,R,S,T⟩:=qLj d hB A (qAO _) (qAF _ _ _) (qAF _ _ _) z;have⟨ai,a8,aG,U,au,av,ab,ac⟩:=hyd8 h z A d u1 u2 R S;have ad:=hyd1 T;clear T S R u2 u1 d A z h;go_wp2;have R:=ab.out;have S:=ac.out;have T:=ad.out;exact bodyPost_ret (v:= .agg #[.bool s4,.slice A4 n4 c4,.slice B4 m4 d4]) (by simp[results,Try.results72,go_sem,R,S,T]) rfl ⟨_,rfl,au.out,av.out⟩
theorem qH9:qA8 Try.prog 72:=λ_ _=>by kernel_rfl
theorem qJ6 (p:List Int) (c:Int) (Bp:Nat) (tp:TypeId) (vp:Value) (w:World) (kp:w.heap[Bp]? =some (.cells #[vp] tp)) (hp:RowE intK 84 0 w vp p) (hp0:p.length≠0) (hpl:p.length<=1000) (htp:TopI p) (hsp:∀x∈p,Isz x 10000000) (hsc:Isz c 10000000):
  ElOk Try.prog intK (ratK .u32) (λc=> .ok (ratC p c)) 72 #[] #[.pointer (some ⟨Bp,0,none⟩)] w c:=by
 rintro l ⟨A,n,d,rfl,g⟩;refine(qJ5 p c Bp tp _ vp w kp hp hp0 hpl htp ⟨A,n,d,rfl,g⟩ hsp hsc).mono ?_;rintro e j ⟨s,rfl,b,f⟩;obtain⟨r,h,q,k,i,o,m,rfl⟩:=f.frm;exact⟨b,.inl ⟨_,_,rfl,rfl,_,_,_,_,_,_,_,rfl,f⟩⟩
theorem qKW (p:List Int) (v:Value) (w:World) (hv:RowE intK 84 0 w v p) (hl:p.length<=1000) (htp:TopI p) (hsp:∀x∈p,Isz x 10000000):
  Calls Try.prog 37 #[v] w λe w'=>∃v',e= .returned v'/\Le w w'/\RowE (ratK .u32) 57 w.heap.size w' v' (qAv p):=by
 obtain⟨A,c,rfl⟩:=hv.slice;obtain⟨n,C⟩:∃n,p.length=n:=⟨_,rfl⟩;rw[C]at hv hl ⊢;obtain⟨s,z,d,j⟩:=enew w (.cells #[.slice A n c] 75);obtain⟨t,D⟩:∃x,w.heap.size=x:=⟨_,rfl⟩;rw[D]at j;have Q:s.cell? ⟨t,0,none⟩=some (.slice A n c):=cell_of_row s t 0 _ _ _ j
 have h:=qKM (λc=> .ok (ratC p c)) 72 #[] #[.pointer (some ⟨t,0,none⟩)] _ p s (hv.le d).seq (by omega) qH9 λW E x I=>
  qJ6 p x t 75 (.slice A n c) W ((E.block _ (gsl j)).trans j) ((hv.le d).le E) (by have:=List.length_pos_of_mem I;omega) (by omega) htp hsp (hsp x I)
 have k:mapE (λc:Int=>(.ok (ratC p c):Except Int Rat)) p= .ok (qAv p):=qC6 (g:=ratC p) λx _=>rfl;rw[k]at h;clear k;have M:=mkf;have⟨O,N,H,G,f,P,l⟩:=hyd7 hv C htp hsp d j h;clear h j d hsp htp C hv;go_enter Try.func37,Try.ntmps37;go_wp2_with (fail);clear z;go_at_call 71;refine l.out.mono ?_;intro e J y;obtain⟨R,rfl,b,i⟩:=y.ok;have q:Le w J:=(show Le w s from f.out).trans b;have m:=i.base (base':=w.heap.size) f.out.size;have⟨L,B,F,r,o⟩:=hyd5 y b i q m;clear m q i b y;go_wp2;go_ret;exact⟨_,rfl,r.out,o.out⟩
theorem qE7 (l:List Rat):(qAG l).length <=l.length:=by
 unfold qAG;rw[qFB];exact Nat.le_trans (qDg _ _) (by rw[List.length_map];exact Nat.le_refl _)
end Go.Proofs.Ytcoajjdhkhgfdaa
