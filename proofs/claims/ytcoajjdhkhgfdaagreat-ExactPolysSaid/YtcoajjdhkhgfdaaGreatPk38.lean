/- Whole polynomials: shared, ratios, Gcd. (The region between --@ARM and --@END is printed by gen_poly.py.) -/
import Derived.Test.YtcoajjdhkhgfdaaGreatPk37
namespace Go.Proofs.YtcoajjdhkhgfdaaGreat
set_option maxRecDepth 100000
set_option maxHeartbeats 1000000
open Go.RowKit Go.Shelf
set_option linter.unusedVariables false
set_option linter.unusedSimpArgs false
theorem qF8:∀f a b,b.length=0->qBJ f a b=a
 | 0,_,_,_=>rfl
 | f+1,a,b,h=>if_pos h
theorem qJZ {a b:List Int} {f:Nat} (hb:b.length≠0) (hf:b.length<=f):∃g,f=g+1/\qBJ f a b=qBJ g b (qAt a b):=by
 obtain⟨g,rfl⟩:∃g,f=g+1:=⟨f - 1,by omega⟩;exact⟨g,rfl,if_neg hb⟩
theorem qLc {a b:List Int} {M:Nat} (hb:b.length≠0):M+(a.length+1 - b.length)*(M+1)<=Room a b M:=by
 by_cases c:b.length<=a.length
 ·exact qKV c
 ·rw[show a.length+1 - b.length=0 by omega,Nat.zero_mul];unfold Room;have d:1<=3^min a.length b.length:=Nat.pow_pos (by decide);have f:M+2<=3^min a.length b.length*(M+2):=Nat.le_mul_of_pos_left _ d;have g:3^min a.length b.length*(M+2)<=(max a.length b.length - min a.length b.length+2)*(3^min a.length b.length*(M+2)):=Nat.le_mul_of_pos_left _ (by omega);omega
theorem qKX {a b:List Int} {M:Nat}:M<=Room a b M:=by
 unfold Room;have c:1<=3^min a.length b.length:=Nat.pow_pos (by decide);have d:M+2<=3^min a.length b.length*(M+2):=Nat.le_mul_of_pos_left _ c;have f:3^min a.length b.length*(M+2)<=(max a.length b.length - min a.length b.length+2)*(3^min a.length b.length*(M+2)):=Nat.le_mul_of_pos_left _ (by omega);omega
theorem qFD {R:Nat}:∀(f:Nat) (a b:List Int) (M:Nat),TopI a->TopI b->(∀x∈a,Isz x M)->(∀x∈b,Isz x M)->Room a b M<=R->a.length<=1000->b.length<=1000->TopI (qBJ f a b)/\(∀x∈qBJ f a b,Isz x R)/\(qBJ f a b).length <=1000
 | 0,a,b,M,ha,hb,sa,sb,hr,la,lb=>⟨ha,λx hx=>(sa x hx).up (Nat.le_trans qKX hr),la⟩
 | f+1,a,b,M,ha,hb,sa,sb,hr,la,lb=>by
  by_cases h0:b.length=0
  ·rw[qF8 _ a b h0];exact⟨ha,λx hx=>(sa x hx).up (Nat.le_trans qKX hr),la⟩
  ·rw[show qBJ (f+1) a b=qBJ f b (qAt a b)from if_neg h0];obtain⟨N,s1,s2,hN⟩:=qHK h0 sa sb;exact qFD f b (qAt a b) N hb (qDG ha) s1 s2 (Nat.le_trans hN hr) lb (by have:=qE4 (a:=a) h0;omega)
theorem qKY (va vb:Value) (a b:List Int) (M:Nat) (w:World) (ha:RowE intK 119 0 w va a) (hb:RowE intK 119 0 w vb b) (hla:a.length<=1000) (hlb:b.length<=1000) (hta:TopI a) (htb:TopI b)
  (hsa:∀x∈a,Isz x M) (hsb:∀x∈b,Isz x M) (hM:Room a b M<=4000000):
  Calls Tryz.prog 47 #[va,vb] w λe w'=>∃v',e= .returned v'/\Le w w'/\RowE intK 119 0 w' v' (qCS a b):=by
 have⟨J,L,ad,ae,Z,aa,aj,S⟩:=hyd8 ha hb hta htb hsa hsb hM hla;have T:=hyd1 hlb;clear hlb hla hM hsb hsa htb hta hb ha;go_enter Tryz.func47,Tryz.ntmps47;go_wp2_with (fail);go_loopw [0,1] (λs t wr=>∃(A B:Option Addr) (c d n m f M:Nat) (x y:List Int),s= .slice A n c/\t= .slice B m d/\Hid (x.length=n)/\Hid (y.length=m)/\Hid (Below w.heap.size w wr)/\Hid (RowE intK 119 0 wr (.slice A n c) x)/\Hid (RowE intK 119 0 wr (.slice B m d) y)/\Hid (m<=f/\qBJ f x y=qCS a b)/\Hid (TopI x/\TopI y)/\Hid ((∀z∈x,Isz z M)/\(∀z∈y,Isz z M)/\Room x y M<=4000000)/\Hid (n<=1000/\m<=1000)) (λ_ t _=>qCB t)
 case atStart=>
  obtain⟨A,c,rfl⟩:=J.out.slice;obtain⟨B,d,rfl⟩:=L.out.slice;exact⟨A,B,c,d,_,_,b.length,M,a,b,rfl,rfl,Lib.hid rfl,Lib.hid rfl,Lib.hid (Below.refl _ _),J,L,Lib.hid ⟨Nat.le_refl _,rfl⟩,Lib.hid ⟨ad.out,ae.out⟩,Lib.hid ⟨Z.out,aa.out,aj.out⟩,Lib.hid ⟨S.out,T.out⟩⟩
 case round=>
  obtain⟨A,B,c,d,n,m,f,N,x,y,rfl,rfl,hn,C,r,hx,hy,G,I,q,H⟩:=hrel
  by_cases h0:m=0
  ·have h1:=qF8 f x y (by rw[C.out];exact h0);have h:=G.out.2;rw[h1]at h;have E:=hx.out;rw[h]at E;have O:=r.out;have j1:¬(0:Int)<(m:Int):=by omega
   have⟨a7,o,V,P⟩:=hyd4 h1 h E O;clear O E h h1;subst h0;go_wp2;go_ret;exact⟨_,rfl,P.out,V.out⟩
  ·have j:y.length≠0:=by rw[C.out];exact h0
   have kl:=qLb _ _ x y N wr hx.out hy.out (by rw[hn.out];exact H.out.1) (by rw[C.out];exact H.out.2) j I.out.1 I.out.2 q.out.1 q.out.2.1 (Nat.le_trans (qLc j) q.out.2.2);obtain⟨g,hg,v⟩:=qJZ (a:=x) j (by rw[C.out];exact G.out.1);obtain⟨N2,s1,s2,hN⟩:=qHK j q.out.1 q.out.2.1;have F:=qDG (b:=y) I.out.1;have am:=qE4 (a:=x) j;obtain⟨m2,D⟩:∃n,(qAt x y).length =n:=⟨_,rfl⟩;rw[C.out,D]at am;have h:m2<=g/\qBJ g y (qAt x y)=qCS a b:=⟨by have:=G.out.1;omega,by rw[<-v];exact G.out.2⟩;have X:(∀z∈y,Isz z N2)/\(∀z∈qAt x y,Isz z N2)/\Room y (qAt x y) N2<=4000000:=⟨s1,s2,Nat.le_trans hN q.out.2.2⟩;have ab:TopI y/\TopI (qAt x y):=⟨I.out.2,F⟩;have Q:m<=1000/\m2<=1000:=⟨H.out.2,by have:=H.out.2;omega⟩;have j1:(0:Int)<(m:Int):=by omega
   have j2:0<m:=by omega
   have⟨aB,an,l,aE,aq,a9,aD,aC⟩:=hyd8 hn C r hx hy G I q;have aA:=hyd1 H;clear H q I G hy hx r C hn;have⟨ar,az,aG,aH,a8,a0,o,Y⟩:=hyd8 kl v s1 s2 hN F h X;have ac:=hyd1 ab;clear ab X h F hN s2 s1 v kl;have⟨R,p⟩:=hyd2 Q D;clear D Q;go_wp2_with (fail);go_at_call 82;refine ar.out.mono ?_;rintro e W4 ⟨v4,rfl,i,k⟩;obtain⟨A4,c4,rfl⟩:=k.slice;rw[p.out]at k ⊢;have r1:Below w.heap.size w W4:=l.out.out.trans (i.mono l.out.out.size);have r2:=aq.out.out.le i;have⟨al,U,av,aw⟩:=hyd4 i k r1 r2;clear r2 r1 k i;go_wp2;go_roundw
   case rel=>exact⟨B,A4,d,c4,m,m2,g,N2,y,qAt x y,rfl,rfl,an.out,p,av,aw,U,o,ac,Y,R⟩
   case measure=>simp[qCB];omega
def ratC (p:List Int) (c:Int):Rat:=mkR (decide (c<0) != decide (qAH p<0)) c.natAbs (qAH p).natAbs
def qBY (p:List Int):List Rat:=p.map (ratC p)
theorem qLd {w W:World} {B:Nat} {t:TypeId} {s:Bool} {A1 A2:Option Addr} {n1 c1 n2 c2:Nat} {x y z:Value} {r:Rat} (hle:Le w W) (hB:w.heap.size<=B) (k:W.heap[B]? =some (.cells #[x,y,z] t)) (hx:NI .u32 x) (hy:NI .u32 y) (hz:NI .u32 z) (hr:RatL (λ_=>True) .u32 W (.agg #[.bool s,.slice A1 n1 c1,.slice A2 n2 c2]) r):
  Le w (((W.setCell ⟨B,0,none⟩ (.bool s)).setCell ⟨B,1,none⟩ (.slice A1 n1 c1)).setCell ⟨B,2,none⟩ (.slice A2 n2 c2))/\RatL (λ_=>True) .u32 (((W.setCell ⟨B,0,none⟩ (.bool s)).setCell ⟨B,1,none⟩ (.slice A1 n1 c1)).setCell ⟨B,2,none⟩ (.slice A2 n2 c2)) (.agg #[.bool s,.slice A1 n1 c1,.slice A2 n2 c2]) r∧
   (((W.setCell ⟨B,0,none⟩ (.bool s)).setCell ⟨B,1,none⟩ (.slice A1 n1 c1)).setCell ⟨B,2,none⟩ (.slice A2 n2 c2)).cell? ⟨B,0,none⟩=some (.bool s)/\(((W.setCell ⟨B,0,none⟩ (.bool s)).setCell ⟨B,1,none⟩ (.slice A1 n1 c1)).setCell ⟨B,2,none⟩ (.slice A2 n2 c2)).cell? ⟨B,1,none⟩=some (.slice A1 n1 c1)/\(((W.setCell ⟨B,0,none⟩ (.bool s)).setCell ⟨B,1,none⟩ (.slice A1 n1 c1)).setCell ⟨B,2,none⟩ (.slice A2 n2 c2)).cell? ⟨B,2,none⟩=some (.slice A2 n2 c2):=by
 have c:NIB .u32 W B:=⟨_,_,k,λu d=>by simp at d;rcases d with rfl|rfl|rfl<;>assumption⟩;have f:Kp .u32 W (((W.setCell ⟨B,0,none⟩ (.bool s)).setCell ⟨B,1,none⟩ (.slice A1 n1 c1)).setCell ⟨B,2,none⟩ (.slice A2 n2 c2)):=(((Kp.refl W).set c (qAK _)).set (qBg c (qAK _)) (qAB _ _ _)).set (qBg (qBg c (qAK _)) (qAB _ _ _)) (qAB _ _ _);have b:=qA1 (u0:= .bool s) (u1:= .slice A1 n1 c1) (u2:= .slice A2 n2 c2) k;exact⟨qAg hle hB,hr.kp f,cell_of_row _ B 0 _ _ _ b,cell_of_row _ B 1 _ _ _ b,cell_of_row _ B 2 _ _ _ b⟩
theorem qJ0 (p:List Int) (c:Int) (Bp:Nat) (tp:TypeId) (v vp:Value) (w:World) (kp:w.heap[Bp]? =some (.cells #[vp] tp)) (hp:RowE intK 119 0 w vp p) (hp0:p.length≠0) (hpl:p.length<=1000) (htp:TopI p) (hc:IntL w v c) (hsp:∀x∈p,Isz x 10000000) (hsc:Isz c 10000000):
  Calls Tryz.prog 81 #[v,.pointer (some ⟨Bp,0,none⟩)] w λe w'=>∃v',e= .returned v'/\Le w w'/\RatL (λ_=>True) .u32 w' v' (ratC p c):=by
 obtain⟨A1,n1,c1,rfl,hn⟩:=hc;obtain⟨t,ht⟩:∃t,p.length=t+1:=⟨p.length - 1,by omega⟩;have I:t<p.length:=by omega
 obtain⟨g,cp,rfl,-,hg,-,-,cs,P,q⟩:=hp.at I;have y:p[t]=qAH p:=by unfold qAH;rw[List.getD_eq_getElem?_getD,show p.length - 1=t by omega,List.getElem?_eq_getElem I];rfl
 have O:qAH p≠0:=htp hp0;have H:Isz (qAH p) 10000000:=by rw[<-y];exact hsp _ (List.getElem_mem I)
 rw[y]at P;obtain⟨A2,n2,c2,rfl,E⟩:=P;obtain⟨N,j⟩:∃s,decide (qAH p<0)=s:=⟨_,rfl⟩;obtain⟨R,i⟩:∃s,decide (c<0)=s:=⟨_,rfl⟩;rw[j]at q;rw[i];obtain⟨n,F⟩:∃n,p.length=n:=⟨_,rfl⟩;rw[F]at kp hp hp0 hpl;obtain⟨W1,af,l,M⟩:=enew w (.cells #[.bool R,.slice A1 n1 c1] 119);obtain⟨C,ag,m,X⟩:=enew W1 (.cells #[.bool false,.slice none 0 0,.slice none 0 0] 58);obtain⟨k,ah,o,Q⟩:=enew C (.cells #[.bool N,.slice A2 n2 c2] 119);have b:Le w C:=l.trans (m.mono l.size);have f:Le w k:=Le.trans b o;have r:=(o.block _ (gsl ((m.block _ (gsl M)).trans M))).trans ((m.block _ (gsl M)).trans M);have J:=(o.block _ (gsl X)).trans X;obtain⟨Y,an⟩:∃x,w.heap.size=x:=⟨_,rfl⟩;obtain⟨x1,ao⟩:∃x,W1.heap.size=x:=⟨_,rfl⟩;obtain⟨Z,ap⟩:∃x,C.heap.size=x:=⟨_,rfl⟩;rw[an]at r;rw[ao]at J;rw[ap]at Q;have hB:w.heap.size<=x1:=by have:=l.size;omega
 have L:=(b.block _ (gsl kp)).trans kp;have q0:C.cell? ⟨Bp,0,none⟩=some (.slice (some ⟨g,0,none⟩) n cp):=cell_of_row C Bp 0 _ _ _ L;have g0:C.cell? ⟨g,t*2,none⟩=some (.bool N):=bcl b hg (q 0 _ rfl);have g1:C.cell? ⟨g,t*2+1,none⟩=some (.slice A2 n2 c2):=bcl b hg (q 1 _ rfl);have p0:k.cell? ⟨Y,0,none⟩=some (.bool R):=cell_of_row k Y 0 _ _ _ r;have p1:k.cell? ⟨Y,1,none⟩=some (.slice A1 n1 c1):=cell_of_row k Y 1 _ _ _ r;have r0:k.cell? ⟨Z,0,none⟩=some (.bool N):=cell_of_row k Z 0 _ _ _ Q;have r1:k.cell? ⟨Z,1,none⟩=some (.slice A2 n2 c2):=cell_of_row k Z 1 _ _ _ Q;have kr:=qCR (λ_=>True) (!R==N) c.natAbs (qAH p).natAbs _ _ k (Up.any _) (hn.le f) (E.le f) (by omega) hsc H
 have G:mkR (!R==N) c.natAbs (qAH p).natAbs =ratC p c:=by
  unfold ratC;rw[j,i]
  cases R<;>cases N<;>rfl
 rw[G]at kr;have j1:(n:Int) - 1=(t:Int):=by omega
 have j2:(t:Int)<(n:Int):=by omega
 have j3:(0:Int)<=(t:Int):=by omega
 have⟨aX,aS,aF,aD,aB,aR,a5,a7⟩:=hyd8 kp hp htp hsp hsc hn y O;have⟨aC,a6⟩:=hyd2 H E;clear E H O y hn hsc hsp htp hp kp;have⟨a3,am,al,a0,aU,a1,aV,a2⟩:=hyd8 q j i l M m X o;have⟨aW,ai⟩:=hyd2 Q b;clear b Q o X m M l i j q;have⟨D,aG,B,aI,ar,aA,aT,a8⟩:=hyd8 f r J L kr G ht F;clear F ht G kr L J r f;go_enter Tryz.func81,Tryz.ntmps81;go_wp2_with (fail);clear af ag ah;go_at_call 62;refine ar.out.mono ?_;rintro e W4 ⟨v4,rfl,h,z⟩;obtain⟨s4,A4,n4,c4,B4,m4,d4,rfl⟩:=z.frm;have A:=(h.block _ (gsl B.out)).trans B.out;have d:Le w W4:=(show Le w k from D.out).trans h;obtain⟨z0,z1,z2,w0,w1,w2⟩:=qAD A;obtain⟨u1,u2,S,T,U⟩:=qLd d hB A (qAK _) (qAB _ _ _) (qAB _ _ _) z;have⟨aj,a9,aH,V,av,aw,ac,ad⟩:=hyd8 h z A d u1 u2 S T;have ae:=hyd1 U;clear U T S u2 u1 d A z h;go_wp2;have S:=ac.out;have T:=ad.out;have U:=ae.out;exact bodyPost_ret (v:= .agg #[.bool s4,.slice A4 n4 c4,.slice B4 m4 d4]) (by simp[results,Tryz.results81,go_sem,S,T,U]) rfl ⟨_,rfl,av.out,aw.out⟩
theorem qH5:qAS Tryz.prog 81:=λ_ _=>by kernel_rfl
theorem qJ1 (p:List Int) (c:Int) (Bp:Nat) (tp:TypeId) (vp:Value) (w:World) (kp:w.heap[Bp]? =some (.cells #[vp] tp)) (hp:RowE intK 119 0 w vp p) (hp0:p.length≠0) (hpl:p.length<=1000) (htp:TopI p) (hsp:∀x∈p,Isz x 10000000) (hsc:Isz c 10000000):
  ElOk Tryz.prog intK (ratK .u32) (λc=> .ok (ratC p c)) 81 #[] #[.pointer (some ⟨Bp,0,none⟩)] w c:=by
 rintro l ⟨A,n,d,rfl,g⟩;refine(qJ0 p c Bp tp _ vp w kp hp hp0 hpl htp ⟨A,n,d,rfl,g⟩ hsp hsc).mono ?_;rintro e j ⟨s,rfl,b,f⟩;obtain⟨r,h,q,k,i,o,m,rfl⟩:=f.frm;exact⟨b,.inl ⟨_,_,rfl,rfl,_,_,_,_,_,_,_,rfl,f⟩⟩
theorem qKZ (p:List Int) (v:Value) (w:World) (hv:RowE intK 119 0 w v p) (hl:p.length<=1000) (htp:TopI p) (hsp:∀x∈p,Isz x 10000000):
  Calls Tryz.prog 46 #[v] w λe w'=>∃v',e= .returned v'/\Le w w'/\RowE (ratK .u32) 58 w.heap.size w' v' (qBY p):=by
 obtain⟨A,c,rfl⟩:=hv.slice;obtain⟨n,C⟩:∃n,p.length=n:=⟨_,rfl⟩;rw[C]at hv hl ⊢;obtain⟨s,z,d,j⟩:=enew w (.cells #[.slice A n c] 84);obtain⟨t,D⟩:∃x,w.heap.size=x:=⟨_,rfl⟩;rw[D]at j;have Q:s.cell? ⟨t,0,none⟩=some (.slice A n c):=cell_of_row s t 0 _ _ _ j
 have h:=qKD (λc=> .ok (ratC p c)) 81 #[] #[.pointer (some ⟨t,0,none⟩)] _ p s (hv.le d).seq (by omega) qH5 λW E x I=>
  qJ1 p x t 84 (.slice A n c) W ((E.block _ (gsl j)).trans j) ((hv.le d).le E) (by have:=List.length_pos_of_mem I;omega) (by omega) htp hsp (hsp x I)
 have k:mapE (λc:Int=>(.ok (ratC p c):Except Int Rat)) p= .ok (qBY p):=qCp (g:=ratC p) λx _=>rfl;rw[k]at h;clear k;have M:=mkf;have⟨O,N,H,G,f,P,l⟩:=hyd7 hv C htp hsp d j h;clear h j d hsp htp C hv;go_enter Tryz.func46,Tryz.ntmps46;go_wp2_with (fail);clear z;go_at_call 80;refine l.out.mono ?_;intro e J y;obtain⟨R,rfl,b,i⟩:=y.ok;have q:Le w J:=(show Le w s from f.out).trans b;have m:=i.base (base':=w.heap.size) f.out.size;have⟨L,B,F,r,o⟩:=hyd5 y b i q m;clear m q i b y;go_wp2;go_ret;exact⟨_,rfl,r.out,o.out⟩
noncomputable def gcdP (p q:List FracA):Except Int (List Rat):=
 match qAC p with
 | .error z=> .error z
 | .ok x=>match qAC q with
  | .error z=> .error z
  | .ok y=>qAR (qBY (qCS (qAe x) (qAe y)))
theorem qMF {p q:List FracA} {z:Int} (h:addF p q= .error z):gcdP p q= .error z:=by
 unfold addF at h;unfold gcdP
 cases hx:qAC p with
 | error z1=>rw[hx]at h;injection h with h;subst h;rfl
 | ok x=>
  rw[hx]at h
  cases hy:qAC q with
  | error z1=>rw[hy]at h;injection h with h;subst h;rfl
  | ok y=>rw[hy]at h;cases h
def qFY (p q:List FracA):Prop:=∀x y,qAC p= .ok x->qAC q= .ok y->∃M,(∀z∈qAe x,Isz z M)/\(∀z∈qAe y,Isz z M)/\Room (qAe x) (qAe y) M<=4000000
theorem qDR (l:List Rat):(qAe l).length <=l.length:=by
 unfold qAe;rw[qHI];exact Nat.le_trans (qE0 _ _) (by rw[List.length_map];exact Nat.le_refl _)
theorem qLe (L:Nat->Prop) (p q:List FracA) (vp vq:Value) (Bp Bq:Nat) (tp tq:TypeId) (w:World) (hroom:qFY p q) (hL:Up w L) (kp:w.heap[Bp]? =some (.cells #[vp] tp)) (kq:w.heap[Bq]? =some (.cells #[vq] tq)) (hp:SeqE inK w vp p) (hq:SeqE inK w vq q):
  Calls Tryz.prog 45 #[.pointer (some ⟨Bp,0,none⟩),.pointer (some ⟨Bq,0,none⟩)] w (MapPost (frK L) 27 w (gcdP p q)):=by
 obtain⟨res,N⟩:∃r,gcdP p q=r:=⟨_,rfl⟩;rw[N];have bf:=gsl kp;have bh:=gsl kq;have⟨bb,bm,bo,be,bg,O,af⟩:=hyd7 hL kp kq hp hq N hroom;clear hroom N hq hp kq kp hL;go_enter Tryz.func45,Tryz.ntmps45;go_wp2_with (fail);refine qCI (R:=leRel) 4 [some 5,some 6,some 7,some 8,some 3,some 4] [[],[0],[],[1,2],[1],[3]]
  [.eq vp,MPred.poly w.heap.size p,.eq vq,MPred.poly w.heap.size q] GTwo (λch W=>Le w W/\∃z,addF p q= .error z/\ch=flt z) (by kernel_rfl) (by kernel_rfl) (by kernel_rfl) (by kernel_rfl) (by kernel_rfl) GTwo.start ?_ ?_ ?_
 ·simp only[List.take_succ_cons,List.take_zero];refine sGc rfl ?_ (sGc rfl ?_ (sGc rfl ?_ (sGc rfl ?_ (qA0))))
  ·intro Dn xv W hD ad f hf B Q hK hP;have cc:=(Below.cell f (p:=⟨Bp,0,none⟩) bf).trans (cell_of_row w Bp 0 _ _ _ bm.out);have cc:W.cell? ⟨Bp,0,none⟩=some vp:=cc;simp only[fA]at hK ⊢;go_wp2;exact hK _ _ lrR rfl (B.keep (by decide) (by decide))
  ·intro Dn xv W hD ad f hf B Q hK hP;obtain⟨e0,-⟩:=hf;change _=_ at e0;have kc:=qBR _ p W (be.out.le f);simp only[fA,e0]at hK ⊢;have⟨a3,aC,d⟩:=hyd3 kc B f;clear f B kc;go_wp2_with (fail);go_at_call 26;refine a3.out.mono ?_;rintro e w' ⟨y1,⟨xs,v,C,rfl,y3⟩| ⟨z,C,rfl⟩⟩
   ·have y4:=y3.base (base':=w.heap.size) d.out.size;have⟨ab,A,b5,o⟩:=hyd4 y1 C y3 y4;clear y4 y3 C y1;go_wp2;exact hK _ _ ab.out ⟨xs,A.out,o.out⟩ (aC.out.one hD)
   ·have y4:Le w w':=d.out.trans y1;have⟨ab,A,o⟩:=hyd3 y1 C y4;clear y4 C y1;go_wp2_with (fail);exact hP _ _ _ ⟨o.out,z,qD9 A.out,rfl⟩
  ·intro Dn xv W hD ad f hf B Q hK hP;have cc:=(Below.cell f (p:=⟨Bq,0,none⟩) bh).trans (cell_of_row w Bq 0 _ _ _ bo.out);have cc:W.cell? ⟨Bq,0,none⟩=some vq:=cc;simp only[fA]at hK ⊢;go_wp2;exact hK _ _ lrR rfl (B.keep (by decide) (by decide))
  ·intro Dn xv W hD ad f hf B Q hK hP;obtain⟨e0,e1,-⟩:=hf;change _=_ at e1;have d1:=ad 1 (by decide);replace e0:∃xs,qAC p= .ok xs/\RowE (ratK .u32) 58 w.heap.size W (xv 1) xs:=e0;have kc:=qBR _ q W (bg.out.le f);simp only[fA,e1]at hK ⊢;have⟨a3,aC,d,aA⟩:=hyd4 kc B f e0;clear e0 f B kc;go_wp2_with (fail);go_at_call 26;refine a3.out.mono ?_;rintro e w' ⟨y1,⟨xs,v,C,rfl,y3⟩| ⟨z,C,rfl⟩⟩
   ·have y4:=y3.base (base':=w.heap.size) d.out.size
    have y5:∀g,v.ownBlock=some g->(xv 1).ownBlock ≠some g:=λg h1 h2=>by
     obtain⟨b4,-,h3⟩:=aA.out;have h4:=(h3.nib h2).2.1;have h5:=(y3.nib h1).1;omega
    have⟨ab,A,b5,o,a5⟩:=hyd5 y1 C y3 y4 y5;clear y5 y4 y3 C y1;go_wp2;exact hK _ _ ab.out ⟨xs,A.out,o.out⟩ (GTwo.two d1 a5.out)
   ·have y4:Le w w':=d.out.trans y1;obtain⟨b4,h3,-⟩:=aA.out;have y5:=qDa h3 C;have⟨ab,A,o,a5,bO⟩:=hyd5 y1 C y4 y5 h3;clear h3 y5 y4 C y1;go_wp2_with (fail);exact hP _ _ _ ⟨o.out,z,a5.out,rfl⟩
 ·rintro a9 ch W9 bc ⟨aI,z,hz,rfl⟩;exact⟨bc,aI,.inr ⟨z,by rw[<-O.out];exact qMF hz,rfl⟩⟩
 intro D xv W hD f hf B Q' aF _;obtain⟨X,i,n⟩:=hf 1 (by decide);obtain⟨Y,j,y⟩:=hf 3 (by decide);have k:=B.2 (hD 3 (by decide));simp only[List.drop_succ_cons,List.drop_zero];rw[show List.range 4=[0,1,2,3]from rfl];simp only[fA];clear hf B;obtain⟨vx,aL⟩:∃v,xv 1=v:=⟨_,rfl⟩;obtain⟨vy,aM⟩:∃v,xv 3=v:=⟨_,rfl⟩;rw[aL]at n k ⊢;rw[aM]at y k ⊢;clear aL aM hD;have⟨U,Z,V,t,J,d⟩:=hyd6 i j n y k f;clear f k y n j i;go_wp2;refine aF _ _ ?_;clear aF;have i:=U.out;have j:=Z.out;have n:=V.out;have y:=t.out;have k:=J.out;have f:=d.out;clear U Z V t J d;have b:=O.out;unfold gcdP at b;rw[i,j]at b;dsimp only at b;obtain⟨bY,a4,-⟩:=qAL i;obtain⟨bZ,aT,-⟩:=qAL j;obtain⟨M,m1,m2,m3⟩:=af.out X Y i j;have kx:=qIF w.heap.size vx X W n (by omega) a4;have aH:Below w.heap.size w W:=f;have ah:TopI (qAe X):=qAr _;have ai:TopI (qAe Y):=qAr _;have bi:=qDR X;have bk:=qDR Y;obtain⟨PX,aq⟩:∃l,qAe X=l:=⟨_,rfl⟩;obtain⟨PY,ar⟩:∃l,qAe Y=l:=⟨_,rfl⟩;rw[aq]at b kx ah bi m1 m3;rw[ar]at b ai bk m2 m3;obtain⟨s1,s2,s3⟩:=qFD PY.length PX PY M ah ai m1 m2 m3 (by omega) (by omega);obtain⟨SH,au⟩:∃l,qCS PX PY=l:=⟨_,rfl⟩;change TopI (qCS PX PY)at s1;change ∀x∈qCS PX PY,_ at s2;change (qCS PX PY).length <=_ at s3
 rw[au]at b s1 s2 s3;have⟨U,Z,V,t,J,d,s,bG⟩:=hyd8 i j n y k f b a4;have⟨aU,bt⟩:=hyd2 aT kx;clear kx aT a4 b f k y n j i;have⟨aj,aN,aO,bA,aE,b0,b1,aG⟩:=hyd8 aH ah ai aq ar s1 s2 au;have⟨bw,bx⟩:=hyd2 m1 m2;clear m2 m1 au s2 s1 ar aq ai ah aH;have bz:=hyd1 m3;clear m3;go_wp2_with (fail);go_at_call 48;refine bt.out.mono ?_;rintro e W1 ⟨v1,rfl,G,aJ⟩;have ky:=qIF w.heap.size vy Y W1 (t.out.le G) (by omega) aU.out;rw[aE.out]at ky;have⟨aw,aK,bv⟩:=hyd3 G aJ ky;clear ky aJ G;go_wp2_with (fail);go_at_call 48;refine bv.out.mono ?_;rintro e W2 ⟨v2,rfl,H,a0⟩;have ks:=qKY v1 v2 PX PY M W2 ((aK.out.le H).base (Nat.zero_le _)) (a0.base (Nat.zero_le _)) (by omega) (by omega) aN.out aO.out bw.out bx.out bz.out;rw[aG.out]at ks;have⟨ax,bB,br⟩:=hyd3 H a0 ks;clear ks a0 H;go_wp2_with (fail);go_at_call 47;refine br.out.mono ?_;rintro e W3 ⟨v3,rfl,ak,a1⟩;have kr:=qKZ SH v3 W3 a1 s3 b0.out (λx hx=>(b1.out x hx).up (by decide));have⟨ay,bC,bp⟩:=hyd3 ak a1 kr;clear kr a1 ak;go_wp2_with (fail);go_at_call 46;refine bp.out.mono ?_;rintro e W4 ⟨v4,rfl,I,a2⟩;have av:Below w.heap.size w W4:=aj.out.trans (((aw.out.trans (ax.out.trans (ay.out.trans I)))).mono aj.out.size);have ko:=qCf L v4 _ W4 (bb.out.later av.size) a2.seq;have⟨bd,bD,bl,h⟩:=hyd4 I a2 ko av
 clear av ko a2 I;go_wp2_with (fail);go_at_call 28;refine bl.out.mono ?_;rintro e W5 ⟨c,⟨ys,v5,hy,rfl,m⟩| ⟨z,hz,rfl⟩⟩
 ·have E:Le w W5:=h.out.trans (c.mono h.out.size);have P:=m.base (base':=w.heap.size) h.out.size;have S:=s.out.symm.trans hy;have⟨az,bQ,aV,F,ag,T⟩:=hyd6 c hy m E P S;clear S P E m hy c;go_wp2;go_ret;exact⟨F.out,.inl ⟨ys,_,T.out,rfl,ag.out⟩⟩
 ·have E:Le w W5:=h.out.trans (c.mono h.out.size);have S:=s.out.symm.trans hz;have⟨az,bR,F,T⟩:=hyd4 c hz E S;clear S E hz c;go_wp2_with (fail);exact⟨rfl,F.out,.inr ⟨z,T.out,rfl⟩⟩
theorem qJ2:qAS Tryz.prog 45:=λ_ _=>by kernel_rfl
theorem qMG (L:Nat->Prop) (p q:List FracA) (vp vq:Value) (w:World) (hroom:qFY p q) (hL:Up w L) (hp:SeqE inK w vp p) (hq:SeqE inK w vq q):Calls Tryz.prog 16 #[vp,vq] w (qBU L (gcdP p q) w):=by
 have Z:=mkf;obtain⟨res,d⟩:∃r,gcdP p q=r:=⟨_,rfl⟩;have s:=hp;have t:=hq;obtain⟨T,V,rfl,-⟩:=hp.slice;obtain⟨U,X,rfl,-⟩:=hq.slice;obtain⟨I,E,i,C⟩:=enew w (.cells #[.slice T p.length V] 22);obtain⟨J,F,j,D⟩:=enew I (.cells #[.slice U q.length X] 22);have b:=i.trans (j.mono i.size);have k:=(j.block _ (gsl C)).trans C;have l1:=gsl k;have l2:=gsl D
 have m:=qEz L res 45 #[.pointer (some ⟨w.heap.size,0,none⟩),.pointer (some ⟨I.heap.size,0,none⟩)] J qJ2 λW y _=>by
  have h:=qLe L p q _ _ _ _ _ _ W hroom (hL.later (Nat.le_trans b.size y.size)) ((y.block _ l1).trans k) ((y.block _ l2).trans D) (s.le (b.trans (y.mono b.size))) (t.le (b.trans (y.mono b.size)));rw[d]at h;exact h
 rw[d];have⟨Y,Q,R,aa,ab,N,O,f⟩:=hyd8 hL s t hp hq i j b;have⟨ad,ae,S,x,H,B⟩:=hyd6 C D k m d hroom;clear hroom d m k D C b j i hq hp t s hL;go_enter Tryz.func16,Tryz.ntmps16;go_wp2_with (fail);clear E F;go_at_call 24;refine x.out.mono ?_;rintro e M ⟨o,v,c,rfl,A⟩;have g:Le w M:=(show Le w J from f.out).trans o
 have l:qBU L res w (.returned (.tuple #[v,.int .i64 c])) M:=⟨g,v,c,rfl,by
  cases res with
  | ok ys=>exact⟨A.1.base f.out.size,A.2⟩
  | error z=>exact A⟩
 have⟨P,G,n,ac⟩:=hyd4 o g l A;clear A l g o;go_wp2;go_ret2;exact n.out
end Go.Proofs.YtcoajjdhkhgfdaaGreat
