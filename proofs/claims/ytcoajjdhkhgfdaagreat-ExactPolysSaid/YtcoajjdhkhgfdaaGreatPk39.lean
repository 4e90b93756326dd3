/- Polynomials, the reference: Trim, coefficient, PlusPoly. -/
import Derived.Test.YtcoajjdhkhgfdaaGreatPk38
namespace Go.Proofs.YtcoajjdhkhgfdaaGreat
set_option maxRecDepth 100000
set_option maxHeartbeats 1000000
open Go.RowKit Go.Shelf
set_option linter.unusedVariables false
set_option linter.unusedSimpArgs false
theorem qEF:(Tryz.prog.info? 93).map (λi=>(i.zero,i.size,i.bytes))=some (some (.agg #[.bool false,.slice none 0 0,.slice none 0 0]),3,56):=by kernel_rfl
def MPred.ratW (r:Rat):MPred:=⟨λv w=>RatL (λ_=>True) .i64 w v r,λ_ _ _ hb h=>h.le hb⟩
theorem qH7 {w W:World} {B:Nat} {t:TypeId} {s:Bool} {A1 A2:Option Addr} {n1 c1 n2 c2:Nat} {x y z:Value} {r:Rat} (hle:Le w W) (hB:w.heap.size<=B) (k:W.heap[B]? =some (.cells #[x,y,z] t)) (hx:NI .i64 x) (hy:NI .i64 y) (hz:NI .i64 z) (hr:RatL (λ_=>True) .i64 W (.agg #[.bool s,.slice A1 n1 c1,.slice A2 n2 c2]) r):
  Le w (((W.setCell ⟨B,0,none⟩ (.bool s)).setCell ⟨B,1,none⟩ (.slice A1 n1 c1)).setCell ⟨B,2,none⟩ (.slice A2 n2 c2))/\RatL (λ_=>True) .i64 (((W.setCell ⟨B,0,none⟩ (.bool s)).setCell ⟨B,1,none⟩ (.slice A1 n1 c1)).setCell ⟨B,2,none⟩ (.slice A2 n2 c2)) (.agg #[.bool s,.slice A1 n1 c1,.slice A2 n2 c2]) r∧
   (((W.setCell ⟨B,0,none⟩ (.bool s)).setCell ⟨B,1,none⟩ (.slice A1 n1 c1)).setCell ⟨B,2,none⟩ (.slice A2 n2 c2)).cell? ⟨B,0,none⟩=some (.bool s)/\(((W.setCell ⟨B,0,none⟩ (.bool s)).setCell ⟨B,1,none⟩ (.slice A1 n1 c1)).setCell ⟨B,2,none⟩ (.slice A2 n2 c2)).cell? ⟨B,1,none⟩=some (.slice A1 n1 c1)/\(((W.setCell ⟨B,0,none⟩ (.bool s)).setCell ⟨B,1,none⟩ (.slice A1 n1 c1)).setCell ⟨B,2,none⟩ (.slice A2 n2 c2)).cell? ⟨B,2,none⟩=some (.slice A2 n2 c2):=by
 have c:NIB .i64 W B:=⟨_,_,k,λu d=>by simp at d;rcases d with rfl|rfl|rfl<;>assumption⟩;have f:Kp .i64 W (((W.setCell ⟨B,0,none⟩ (.bool s)).setCell ⟨B,1,none⟩ (.slice A1 n1 c1)).setCell ⟨B,2,none⟩ (.slice A2 n2 c2)):=(((Kp.refl W).set c (qAK _)).set (qBg c (qAK _)) (qAB _ _ _)).set (qBg (qBg c (qAK _)) (qAB _ _ _)) (qAB _ _ _);have b:=qA1 (u0:= .bool s) (u1:= .slice A1 n1 c1) (u2:= .slice A2 n2 c2) k;exact⟨qAg hle hB,hr.kp f,cell_of_row _ B 0 _ _ _ b,cell_of_row _ B 1 _ _ _ b,cell_of_row _ B 2 _ _ _ b⟩
theorem qDl (base:Nat) (v:Value) (xs:List Rat) (w:World) (hv:RowE (ratK .i64) 93 base w v xs) (hl:xs.length<=1000000):
  Calls Tryz.prog 69 #[v] w λe w'=>∃v',e= .returned v'/\Le w w'/\RowE (ratK .i64) 93 base w' v' (cutz xs):=by
 obtain⟨A,c,rfl⟩:=hv.slice;obtain⟨n,hn⟩:∃n,xs.length=n:=⟨_,rfl⟩;rw[hn]at hl;have⟨G,f⟩:=hyd2 hv hn;clear hn hv;rw[f.out];rw[f.out]at G;go_enter Tryz.func69,Tryz.ntmps69;go_wp2_with (fail);go_loopw [3] (λs wr=>∃m:Nat,s= .int .i64 (m:Int)/\m<=n/\Hid (topN xs n=topN xs m)/\Hid (Below w.heap.size w wr)) (λs _=>(intOf s).toNat)
 case atStart=>exact⟨n,rfl,Nat.le_refl _,Lib.hid rfl,Lib.hid (Below.refl _ _)⟩
 case round=>
  obtain⟨m,rfl,hm,M,I⟩:=hrel
  by_cases h0:m=0
  ·have d:=I.out;have o:=G.out.le d;have q:cutz xs=xs.take m:=by unfold cutz;rw[f.out,M.out,h0];rfl
   have t:=RowE.take (xs:=xs) (m:=m) (A:=A) (c:=c) (by rw[f.out];exact o) (by rw[f.out];exact hm);rw[<-q]at t
   have S:n<=c:=by
    obtain⟨A',c',H,h1,-⟩:=o.seq;injection H with H e2 e3;omega
   have w1:¬(0:Int)<(m:Int):=by omega
   have⟨l,T,N,C⟩:=hyd4 d o q t;clear t q o d;subst h0;go_wp2;go_ret;exact⟨_,rfl,l.out,C.out⟩
  ·obtain⟨k,P⟩:∃k,m=k+1:=⟨m - 1,by omega⟩;have Q:k<xs.length:=by rw[f.out];omega
   obtain⟨g,c',H,ao,ap,S,ac,cs,U,J⟩:=(G.out.le I.out).at Q;rw[f.out]at H S;unfold maxLen at ac;injection H with H e2 e3;subst H e3;clear e2;have y:xs.getD k 0=xs[k]:=by rw[List.getD_eq_getElem?_getD,List.getElem?_eq_getElem Q];rfl
   have p:topN xs m=if xs.getD k 0=0 then topN xs k else m:=by rw[P];rfl
   rw[y]at p;generalize xs[k]=x at U y p;obtain⟨s1,A1,n1,c1,B1,m1,d1,rfl,E⟩:=U;have q0:wr.cell? ⟨g,k*3,none⟩=some (.bool s1):=J 0 _ rfl;have q1:wr.cell? ⟨g,k*3+1,none⟩=some (.slice A1 n1 c1):=J 1 _ rfl;have q2:wr.cell? ⟨g,k*3+2,none⟩=some (.slice B1 m1 d1):=J 2 _ rfl;have b:=qGz _ x _ wr E;obtain⟨sg,z⟩:∃sg,rsgn x=sg:=⟨_,rfl⟩;have B:(sg=0)↔x=0:=by rw[<-z];unfold rsgn;simp
   rw[z]at b;have w1:(m:Int) - 1=(k:Int):=by omega
   have w2:(0:Int)<(m:Int):=by omega
   have w3:(k:Int)<(n:Int):=by omega
   have w4:(0:Int)<=(k:Int):=by omega
   have w5:0<m:=by omega
   have F:=I.out
   by_cases Z:x=0
   ·have L:=B.2 Z;subst L;rw[if_pos Z,<-M.out]at p;have⟨i,Y,D,j,V,X,ab,O⟩:=hyd8 b E p F z B J y;clear y J B z F p E b;have⟨ad,aa,af⟩:=hyd3 P I M;clear M I P;go_wp2_with (fail);go_at_call 79;refine i.out.mono ?_;rintro e W2 ⟨rfl,r⟩;have d:=(show Below w.heap.size w wr from j.out).trans (r.mono (j.out).size);have⟨R,l⟩:=hyd2 r d;clear d r;go_wp2;go_roundw
    case rel=>exact⟨k,by go_num,by omega,D,l⟩
    case measure=>simp[intOf];omega
   ·have L:¬sg=0:=λh=>Z (B.1 h);have aq:(sg==0)=false:=by simpa using L
    rw[if_neg Z,<-M.out]at p;have⟨i,Y,D,j,V,X,ab,O⟩:=hyd8 b E p F z B J y;clear y J B z F p E b;have⟨ad,aa,af⟩:=hyd3 P I M;clear M I P;go_wp2_with (fail);go_at_call 79;refine i.out.mono ?_;rintro e W2 ⟨rfl,r⟩;have d:=(show Below w.heap.size w wr from j.out).trans (r.mono (j.out).size);have o:=G.out.le d;have q:cutz xs=xs.take m:=by unfold cutz;rw[f.out,D.out]
    have t:=RowE.take (xs:=xs) (m:=m) (A:=some ⟨g,0,none⟩) (c:=c) (by rw[f.out];exact o) (by rw[f.out];exact hm);rw[<-q]at t;have⟨R,l,T,N,C⟩:=hyd5 r d o q t;clear t q o d r;go_wp2;go_ret;exact⟨_,rfl,l.out,C.out⟩
theorem qBq (base:Nat) (v:Value) (xs:List Rat) (i:Nat) (w:World) (hv:RowE (ratK .i64) 93 base w v xs) (hi:i<=1000000000):
  Calls Tryz.prog 68 #[v,.int .i64 (i:Int)] w λe w'=>∃v',e= .returned v'/\Le w w'/\RatL (λ_=>True) .i64 w' v' (xs.getD i 0):=by
 obtain⟨A,c,rfl⟩:=hv.slice;obtain⟨F,P,h,z⟩:=enew w (.cells #[.bool false,.slice none 0 0,.slice none 0 0] 93);obtain⟨n,E⟩:∃n,xs.length=n:=⟨_,rfl⟩;obtain⟨x0,U⟩:∃x,w.heap.size=x:=⟨_,rfl⟩;rw[U]at z;have hB:w.heap.size<=x0:=by omega
 by_cases ap:i<n
 ·have J:i<xs.length:=by omega
  obtain⟨g,c',M,-,hg,-,-,cs,L,H⟩:=(hv.le h).at J;rw[E]at M hv ⊢;injection M with M e2 e3;subst M e3;clear e2;have b:xs.getD i 0=xs[i]:=by rw[List.getD_eq_getElem?_getD,List.getElem?_eq_getElem J];rfl
  rw[b];generalize xs[i]=r at L ⊢;obtain⟨s,X,n1,c1,Z,m1,t,rfl,T⟩:=L;have q0:F.cell? ⟨g,i*3,none⟩=some (.bool s):=H 0 _ rfl;have q1:F.cell? ⟨g,i*3+1,none⟩=some (.slice X n1 c1):=H 1 _ rfl;have q2:F.cell? ⟨g,i*3+2,none⟩=some (.slice Z m1 t):=H 2 _ rfl;obtain⟨z0,z1,z2,w0,w1,w2⟩:=qAD z;obtain⟨u1,u2,k,l,m⟩:=qH7 h hB z (qAK _) (qAB _ _ _) (qAB _ _ _) T;have j1:(i:Int)<(n:Int):=by omega
  have j2:(0:Int)<=(i:Int):=by omega
  have⟨S,p,B,R,ao,aq,I,C⟩:=hyd8 hv h z E H T b u1;have⟨D,q,G,y⟩:=hyd4 u2 k l m;clear m l k u2 u1 b T H E z h hv;go_enter Tryz.func68,Tryz.ntmps68;go_wp2;have k:=q.out;have l:=G.out;have m:=y.out;exact bodyPost_ret (v:= .agg #[.bool s,.slice X n1 c1,.slice Z m1 t]) (by simp[results,Tryz.results68,go_sem,k,l,m]) rfl ⟨_,rfl,C.out,D.out⟩
 ·have b:xs.getD i 0=0:=by rw[List.getD_eq_getElem?_getD,List.getElem?_eq_none (by omega)];rfl
  rw[b];rw[E]at hv ⊢;have kn:=qFk (λ_=>True) 0 F (Up.any _) (by decide) (by decide);have j1:¬(i:Int)<(n:Int):=by omega
  have⟨S,p,B,R,I,V⟩:=hyd6 hv h z E b kn;clear kn b E z h hv;go_enter Tryz.func68,Tryz.ntmps68;go_wp2_with (fail);clear P;go_at_call 71;refine V.out.mono ?_;rintro e W4 ⟨v4,rfl,f,j⟩;obtain⟨s4,Y,n4,c4,B4,m4,d4,rfl⟩:=j.frm;have j:RatL (λ_=>True) .i64 W4 (.agg #[.bool s4,.slice Y n4 c4,.slice B4 m4 d4]) 0:=by simpa using j
  have o:=(f.block _ (gsl B.out)).trans B.out;have d:Le w W4:=(show Le w F from p.out).trans f;obtain⟨z0,z1,z2,w0,w1,w2⟩:=qAD o;obtain⟨u1,u2,k,t,m⟩:=qH7 d hB o (qAK _) (qAB _ _ _) (qAB _ _ _) j;have⟨Q,ag,ah,N,C,D,q,O⟩:=hyd8 f j o d u1 u2 k t;have y:=hyd1 m;clear m t k u2 u1 d o j f;go_wp2;have k:=q.out;have t:=O.out;have m:=y.out;exact bodyPost_ret (v:= .agg #[.bool s4,.slice Y n4 c4,.slice B4 m4 d4]) (by simp[results,Tryz.results68,go_sem,k,t,m]) rfl ⟨_,rfl,C.out,D.out⟩
def sumK (X Y:List Rat) (k:Nat):List Rat:=(List.range k).map λi=>X.getD i 0+Y.getD i 0
theorem qE6 (X Y:List Rat) (k:Nat):(sumK X Y k).length =k:=by unfold sumK;rw[List.length_map,List.length_range]
theorem qHL (X Y:List Rat) (k:Nat):sumK X Y (k+1)=sumK X Y k++[X.getD k 0+Y.getD k 0]:=by
 unfold sumK;rw[List.range_succ,List.map_append]
 rfl
def qCh (X Y:List Rat):List Rat:=cutz (sumK X Y (max X.length Y.length))
theorem qFs (vx vy:Value) (X Y:List Rat) (w:World) (hx:RowE (ratK .i64) 93 0 w vx X) (hy:RowE (ratK .i64) 93 0 w vy Y) (hxy:X.length<Y.length) (hlx:X.length<=1000) (hly:Y.length<=1000) (hsx:∀r∈X,Rsz r 1000000) (hsy:∀r∈Y,Rsz r 1000000):
  Calls Tryz.prog 32 #[vx,vy] w λe w'=>∃v',e= .returned v'/\Le w w'/\RowE (ratK .i64) 93 w.heap.size w' v' (qCh X Y):=by
 have l:=qEF;obtain⟨AX,cX,rfl⟩:=hx.slice;obtain⟨AY,cY,rfl⟩:=hy.slice;have g:qCh X Y=cutz (sumK X Y (max X.length Y.length)):=rfl;obtain⟨nX,B⟩:∃n,X.length=n:=⟨_,rfl⟩;obtain⟨x,C⟩:∃n,Y.length=n:=⟨_,rfl⟩;rw[B,C]at hxy;have hn:max nX x=x:=by omega
 have hm:max (nX:Int) (x:Int)=(x:Int):=by omega
 have aW:(nX:Int)<(x:Int):=by omega
 rw[B]at hx hlx g ⊢;rw[C]at hy hly g ⊢;rw[hn]at g;rw[g];have aV:x<=1000:=by omega
 have⟨a2,a3,ad,ae,aF,aD,aE,A⟩:=hyd8 hx hy hsx hsy g B C l;have aU:=hyd1 hn;clear hn l C B g hsy hsx hy hx;go_enter Tryz.func32,Tryz.ntmps32;go_wp2_with (fail);go_loopw [5,6] (λs i wr=>∃k:Nat,i= .int .i64 (k:Int)/\k<=x/\Hid (Below w.heap.size w wr)/\Hid (RowE (ratK .i64) 93 w.heap.size wr s (sumK X Y k))) (λ_ i _=>x - (intOf i).toNat)
 case atStart=>exact⟨0,rfl,Nat.zero_le _,Lib.hid (Below.refl _ _),Lib.hid (RowE.nil _ _ _ _)⟩
 case round=>
  obtain⟨k,rfl,hk,T,b⟩:=hrel
  by_cases aT:k<x
  ·have ai:=qBq 0 _ X k wr (a2.out.le T.out) (by omega);have j1:(k:Int)<(x:Int):=by omega
   have j2:(0:Int)<=(k:Int):=by omega
   have⟨aj,h,v⟩:=hyd3 ai T b;clear b T ai;go_wp2_with (fail);go_at_call 68;refine aj.out.mono ?_;rintro e W1 ⟨v1,rfl,m,U⟩;have M:Below w.heap.size w W1:=h.out.out.trans (m.mono h.out.out.size);have ak:=qBq 0 _ Y k W1 (a3.out.le M) (by omega);have⟨N,V,G,al⟩:=hyd4 m U M ak;clear ak M U m;go_wp2_with (fail);go_at_call 68;refine al.out.mono ?_;rintro e W2 ⟨v2,rfl,o,Q⟩;have kp:=qDC (λ_=>True) _ _ v1 v2 W2 (Up.any _) (V.out.le o) Q (qAN (qBS ad.out (by decide) k) (by decide)) (qAN (qBS ae.out (by decide) k) (by decide));have⟨O,aG,a5⟩:=hyd3 o Q kp;clear kp Q o;go_wp2_with (fail);go_at_call 67;refine a5.out.mono ?_;rintro e S ⟨v3,rfl,p,t⟩;obtain⟨s2,A2,n2,c2,B2,m2,d2,rfl⟩:=t.frm;obtain⟨F,aS,y,k4⟩:=enew S (.cells #[.bool s2,.slice A2 n2 c2,.slice B2 m2 d2] 93);have f:Le W1 F:=O.out.trans (p.trans y);have j:Below w.heap.size w F:=G.out.trans (f.mono G.out.size);have d:=v.out.out.le (N.out.trans f);obtain⟨z9,E⟩:∃z,X.getD k 0+Y.getD k 0=z:=⟨_,rfl⟩;have ab:sumK X Y (k+1)=sumK X Y k++[z9]:=by rw[qHL,E]
   rw[E]at t;have J:(ratK .i64).rd F [.bool s2,.slice A2 n2 c2,.slice B2 m2 d2] z9:=⟨s2,A2,n2,c2,B2,m2,d2,rfl,(t.kp (Kp.of_le y))⟩
   have I:∀(i:Nat) (u:Value),([.bool s2,.slice A2 n2 c2,.slice B2 m2 d2]:List Value)[i]? =some u->F.cell? ⟨S.heap.size,i,none⟩=some u:=λi u hu=>by
    have ax:i<3:=(List.getElem?_eq_some_iff.1 hu).1
    match i,ax with
    | 0,_=>have z:=cell_of_row F S.heap.size 0 _ _ _ k4;rw[z];simpa using hu
    | 1,_=>have z:=cell_of_row F S.heap.size 1 _ _ _ k4;rw[z];simpa using hu
    | 2,_=>have z:=cell_of_row F S.heap.size 2 _ _ _ k4;rw[z];simpa using hu
   obtain⟨SA,sc,rfl⟩:=d.slice;have c:=qE6 X Y k;have a4:=j.size;have⟨ay,aH,aC,aY,az,L,D,R⟩:=hyd8 p t y k4 f j d J;have⟨P,H,ac,aI⟩:=hyd4 I c ab E;clear E ab c I J d j f k4 y t p;go_wp2_with (first | (at_builtin;go_must (refine RowE.append D.out rfl _ _ 63 rfl 56 (.agg #[.bool false,.slice none 0 0,.slice none 0 0]) (by decide) Tryz.underlying63 A.out rfl qDP rfl S.heap.size rfl R.out P.out (by rw[H.out];omega) a4 ?_)));intro v7 W7 q1 q2 q3 q4 q5;rw[<-ac.out]at q1;have r3:Below w.heap.size w W7:=(show Below w.heap.size w F from L.out).trans q2;have⟨aA,aZ,ba,bb,bc,aB⟩:=hyd6 q1 q2 q3 q4 q5 r3;clear r3 q5 q4 q3 q2 q1;go_wp2;go_roundw
   case rel=>exact⟨k+1,by go_num,by omega,aB,aA⟩
   case measure=>simp[intOf];omega
  ·obtain rfl:k=x:=by omega
   have j1:¬(k:Int)<(k:Int):=by omega
   have c:=qE6 X Y k;obtain⟨SA,sc,rfl⟩:=b.out.slice;have kt:=qDl w.heap.size _ (sumK X Y k) wr b.out (by rw[c];omega);rw[c]at kt ⊢;have⟨h,v,a7,H⟩:=hyd4 T b kt c;clear c kt b T;go_wp2_with (fail);go_at_call 69;refine a7.out.mono ?_;rintro e W5 ⟨v5,rfl,q,Z⟩;have af:Le w W5:=(show Below w.heap.size w wr from h.out.out).trans (q.mono h.out.out.size);have⟨a0,aa,ag⟩:=hyd3 q Z af;clear af Z q;go_wp2;go_ret;exact⟨_,rfl,ag.out,aa.out⟩
theorem qFt (vx vy:Value) (X Y:List Rat) (w:World) (hx:RowE (ratK .i64) 93 0 w vx X) (hy:RowE (ratK .i64) 93 0 w vy Y) (hxy:X.length>=Y.length) (hlx:X.length<=1000) (hly:Y.length<=1000) (hsx:∀r∈X,Rsz r 1000000) (hsy:∀r∈Y,Rsz r 1000000):
  Calls Tryz.prog 32 #[vx,vy] w λe w'=>∃v',e= .returned v'/\Le w w'/\RowE (ratK .i64) 93 w.heap.size w' v' (qCh X Y):=by
 have l:=qEF;obtain⟨AX,cX,rfl⟩:=hx.slice;obtain⟨AY,cY,rfl⟩:=hy.slice;have g:qCh X Y=cutz (sumK X Y (max X.length Y.length)):=rfl;obtain⟨x,B⟩:∃n,X.length=n:=⟨_,rfl⟩;obtain⟨nY,C⟩:∃n,Y.length=n:=⟨_,rfl⟩;rw[B,C]at hxy;have hn:max x nY=x:=by omega
 have hm:max (x:Int) (nY:Int)=(x:Int):=by omega
 have aW:(x:Int)>=(nY:Int):=by omega
 rw[B]at hx hlx g ⊢;rw[C]at hy hly g ⊢;rw[hn]at g;rw[g];have aV:x<=1000:=by omega
 have⟨a2,a3,ad,ae,aF,aD,aE,A⟩:=hyd8 hx hy hsx hsy g B C l;have aU:=hyd1 hn;clear hn l C B g hsy hsx hy hx;go_enter Tryz.func32,Tryz.ntmps32;go_wp2_with (fail);go_loopw [5,6] (λs i wr=>∃k:Nat,i= .int .i64 (k:Int)/\k<=x/\Hid (Below w.heap.size w wr)/\Hid (RowE (ratK .i64) 93 w.heap.size wr s (sumK X Y k))) (λ_ i _=>x - (intOf i).toNat)
 case atStart=>exact⟨0,rfl,Nat.zero_le _,Lib.hid (Below.refl _ _),Lib.hid (RowE.nil _ _ _ _)⟩
 case round=>
  obtain⟨k,rfl,hk,T,b⟩:=hrel
  by_cases aT:k<x
  ·have ai:=qBq 0 _ X k wr (a2.out.le T.out) (by omega);have j1:(k:Int)<(x:Int):=by omega
   have j2:(0:Int)<=(k:Int):=by omega
   have⟨aj,h,v⟩:=hyd3 ai T b;clear b T ai;go_wp2_with (fail);go_at_call 68;refine aj.out.mono ?_;rintro e W1 ⟨v1,rfl,m,U⟩;have M:Below w.heap.size w W1:=h.out.out.trans (m.mono h.out.out.size);have ak:=qBq 0 _ Y k W1 (a3.out.le M) (by omega);have⟨N,V,G,al⟩:=hyd4 m U M ak;clear ak M U m;go_wp2_with (fail);go_at_call 68;refine al.out.mono ?_;rintro e W2 ⟨v2,rfl,o,Q⟩;have kp:=qDC (λ_=>True) _ _ v1 v2 W2 (Up.any _) (V.out.le o) Q (qAN (qBS ad.out (by decide) k) (by decide)) (qAN (qBS ae.out (by decide) k) (by decide));have⟨O,aG,a5⟩:=hyd3 o Q kp;clear kp Q o;go_wp2_with (fail);go_at_call 67;refine a5.out.mono ?_;rintro e S ⟨v3,rfl,p,t⟩;obtain⟨s2,A2,n2,c2,B2,m2,d2,rfl⟩:=t.frm;obtain⟨F,aS,y,k4⟩:=enew S (.cells #[.bool s2,.slice A2 n2 c2,.slice B2 m2 d2] 93);have f:Le W1 F:=O.out.trans (p.trans y);have j:Below w.heap.size w F:=G.out.trans (f.mono G.out.size);have d:=v.out.out.le (N.out.trans f);obtain⟨z9,E⟩:∃z,X.getD k 0+Y.getD k 0=z:=⟨_,rfl⟩;have ab:sumK X Y (k+1)=sumK X Y k++[z9]:=by rw[qHL,E]
   rw[E]at t;have J:(ratK .i64).rd F [.bool s2,.slice A2 n2 c2,.slice B2 m2 d2] z9:=⟨s2,A2,n2,c2,B2,m2,d2,rfl,(t.kp (Kp.of_le y))⟩
   have I:∀(i:Nat) (u:Value),([.bool s2,.slice A2 n2 c2,.slice B2 m2 d2]:List Value)[i]? =some u->F.cell? ⟨S.heap.size,i,none⟩=some u:=λi u hu=>by
    have ax:i<3:=(List.getElem?_eq_some_iff.1 hu).1
    match i,ax with
    | 0,_=>have z:=cell_of_row F S.heap.size 0 _ _ _ k4;rw[z];simpa using hu
    | 1,_=>have z:=cell_of_row F S.heap.size 1 _ _ _ k4;rw[z];simpa using hu
    | 2,_=>have z:=cell_of_row F S.heap.size 2 _ _ _ k4;rw[z];simpa using hu
   obtain⟨SA,sc,rfl⟩:=d.slice;have c:=qE6 X Y k;have a4:=j.size;have⟨ay,aH,aC,aY,az,L,D,R⟩:=hyd8 p t y k4 f j d J;have⟨P,H,ac,aI⟩:=hyd4 I c ab E;clear E ab c I J d j f k4 y t p;go_wp2_with (first | (at_builtin;go_must (refine RowE.append D.out rfl _ _ 63 rfl 56 (.agg #[.bool false,.slice none 0 0,.slice none 0 0]) (by decide) Tryz.underlying63 A.out rfl qDP rfl S.heap.size rfl R.out P.out (by rw[H.out];omega) a4 ?_)));intro v7 W7 q1 q2 q3 q4 q5;rw[<-ac.out]at q1;have r3:Below w.heap.size w W7:=(show Below w.heap.size w F from L.out).trans q2;have⟨aA,aZ,ba,bb,bc,aB⟩:=hyd6 q1 q2 q3 q4 q5 r3;clear r3 q5 q4 q3 q2 q1;go_wp2;go_roundw
   case rel=>exact⟨k+1,by go_num,by omega,aB,aA⟩
   case measure=>simp[intOf];omega
  ·obtain rfl:k=x:=by omega
   have j1:¬(k:Int)<(k:Int):=by omega
   have c:=qE6 X Y k;obtain⟨SA,sc,rfl⟩:=b.out.slice;have kt:=qDl w.heap.size _ (sumK X Y k) wr b.out (by rw[c];omega);rw[c]at kt ⊢;have⟨h,v,a7,H⟩:=hyd4 T b kt c;clear c kt b T;go_wp2_with (fail);go_at_call 69;refine a7.out.mono ?_;rintro e W5 ⟨v5,rfl,q,Z⟩;have af:Le w W5:=(show Below w.heap.size w wr from h.out.out).trans (q.mono h.out.out.size);have⟨a0,aa,ag⟩:=hyd3 q Z af;clear af Z q;go_wp2;go_ret;exact⟨_,rfl,ag.out,aa.out⟩
theorem qH6 (vx vy:Value) (X Y:List Rat) (w:World) (hx:RowE (ratK .i64) 93 0 w vx X) (hy:RowE (ratK .i64) 93 0 w vy Y) (hlx:X.length<=1000) (hly:Y.length<=1000) (hsx:∀r∈X,Rsz r 1000000) (hsy:∀r∈Y,Rsz r 1000000):
  Calls Tryz.prog 32 #[vx,vy] w λe w'=>∃v',e= .returned v'/\Le w w'/\RowE (ratK .i64) 93 w.heap.size w' v' (qCh X Y):=by
 by_cases h:X.length<Y.length
 ·exact qFs vx vy X Y w hx hy h hlx hly hsx hsy
 ·exact qFt vx vy X Y w hx hy (by omega) hlx hly hsx hsy
end Go.Proofs.YtcoajjdhkhgfdaaGreat
