/- Roots, the reference: single, Counted, Roots. -/
import Derived.Test.YtcoajjdhkhgfdaaPk50
namespace Go.Proofs.Ytcoajjdhkhgfdaa
set_option maxRecDepth 100000
set_option maxHeartbeats 1000000
open Go.RowKit Go.Shelf
set_option linter.unusedVariables false
set_option linter.unusedSimpArgs false
structure RefRoom (x:List Rat):Prop where
 l65:x.length<=65
 top:qAD x=true
 sz:∀r∈x,Rsz r 500000
 gl:∃M,GL M x/\GL M (derQ x)/\qBb x.length (derQ x).length M<=400000
 gsz:∀r∈gcdQ x (derQ x),Rsz r 500000
 dsz:∀s,s<=x.length - (gcdQ x (derQ x)).length +1->∀r∈divS x (gcdQ x (derQ x)) (x.length - (gcdQ x (derQ x)).length) s,Rsz r 500000
 ch:ChQOk (qAW x)
 el:∀r∈qBS (qAW x),r.length≠0/\r.length<=65
 cl:(qBS (qAW x)).length <=1000
 atr:∀y,Rsz y 2->∀r∈qBS (qAW x),AtRoom y r
noncomputable def cntR (x:List Rat):Int:=if x.length<2 then 0 else bey true (qBS (qAW x)) - bey false (qBS (qAW x))
theorem qI1 (ss:List Int):qDr ss<=ss.length:=qHA ss ss.length
theorem qKi (b:Bool) (Q:List (List Rat)):0<=bey b Q/\bey b Q<=Q.length:=by
 unfold bey;have:=qI1 (Q.map (begS b));rw[List.length_map]at this;omega
theorem qKj (x:Rat) (Q:List (List Rat)):0<=atQ x Q/\atQ x Q<=Q.length:=by
 unfold atQ;have:=qI1 (Q.map λr=>rsgn (valL r x));rw[List.length_map]at this;omega
theorem qFb (v:Value) (x:List Rat) (w:World) (hv:RowE (ratK .i64) 63 0 w v x) (h:RefRoom x) (h2:2<=x.length):
  Calls Try.prog 30 #[v] w λe w'=>∃v',e= .returned v'/\Le w w'/\RowE (ratK .i64) 63 w.heap.size w' v' (qAW x):=by
 obtain⟨M,g1,g2,g3⟩:=h.gl;have C:=h.top;have I:=qC9 C;have G:=qBs x;have F:=h.l65;have q:=qC8 C (by omega);rw[qCM C]at q;have o:(gcdQ x (derQ x)).length <=1000:=by have:=qGw C;rw[qCM C]at this;omega
 have k1:=qFM 0 v x w hv (by omega) (λr hr=>qA0 (h.sz r hr) (by decide));obtain⟨A,c,rfl⟩:=hv.slice;have⟨V,h',P,Q,R,U,J,H⟩:=hyd8 hv h g1 g2 g3 C I G;have⟨f,n,s,X⟩:=hyd4 F q o k1;clear k1 o q F G I C g3 g2 g1 h hv;have am:=hyd1 h2;clear h2;go_enter Try.func30,Try.ntmps30;go_wp2_with (fail);go_at_call 57;refine X.out.mono ?_;rintro e N ⟨v1,rfl,j,y⟩;have D:=V.out.le j;have k2:=qJe _ v1 x (derQ x) M N D (y.base (Nat.zero_le _)) (by have:=f.out;omega) (by have:=f.out;have:=H.out;omega) U.out J.out P.out Q.out R.out;have⟨t,af,L,Y⟩:=hyd4 j y D k2;clear k2 D y j;go_wp2_with (fail);go_at_call 60;refine Y.out.mono ?_;rintro e O ⟨v2,rfl,d,m⟩;change RowE _ _ _ _ _ (gcdQ x (derQ x))at m;have E:=L.out.le d;have g:Le w O:=(show Le w N from t.out).trans d;have k3:=qFK 0 N.heap.size _ v2 x (gcdQ x (derQ x)) O E m (Nat.zero_le _) (by have:=n.out.1;omega) n.out.2 (by have:=f.out;omega) s.out h'.out.gsz h'.out.dsz;have⟨S,ag,ai,b,Z⟩:=hyd5 d m E g k3;clear k3 g E m d;go_wp2_with (fail);go_at_call 59;refine Z.out.mono ?_;rintro e W3 ⟨va,vr,rfl,k,z,-⟩;have i:Le w W3:=(show Le w O from b.out).trans k;have p:RowE (ratK .i64) 63 w.heap.size W3 va (qAW x):=z.base b.out.size;have⟨T,ah,l,B⟩:=hyd4 k z i p
 clear p i z k;go_wp2;go_ret;exact⟨_,rfl,l.out,B.out⟩
theorem qI2 (v:Value) (x:List Rat) (w:World) (hv:RowE (ratK .i64) 63 0 w v x) (h65:x.length<=65) (h:2<=x.length->RefRoom x):
  Calls Try.prog 21 #[v] w λe w'=>e= .returned (.int .i64 (cntR x))/\Le w w':=by
 obtain⟨A,c,rfl⟩:=hv.slice;obtain⟨n,H⟩:∃n,x.length=n:=⟨_,rfl⟩;obtain⟨z,M⟩:∃z,cntR x=z:=⟨_,rfl⟩;rw[M];have d:=M;unfold cntR at d;rw[H]at d h h65
 by_cases h2:n<2
 ·rw[if_pos h2]at d;subst d;have j1:(n:Int)<2:=by omega
  rw[H]at hv ⊢;have⟨ad,h',ae,ab⟩:=hyd4 hv h M H;clear H M h hv;go_enter Try.func21,Try.ntmps21;go_wp2;go_ret;exact⟨rfl,Below.refl _ _⟩
 ·rw[if_neg h2]at d;have o:=h (by omega);have j1:¬(n:Int)<2:=by omega
  have k1:=qFb _ x w hv o (by omega);obtain⟨Q,U⟩:∃Q,qBS (qAW x)=Q:=⟨_,rfl⟩;have F:=o.el;have E:=o.cl;rw[U]at d F E;have N:=qKi true Q;have O:=qKi false Q;obtain⟨bl,D⟩:∃b,bey true Q=b:=⟨_,rfl⟩;obtain⟨bh,C⟩:∃b,bey false Q=b:=⟨_,rfl⟩;rw[D]at d N;rw[C]at d O;subst d;rw[H]at hv k1 ⊢;have X: -100000<=bl - bh/\bl - bh<=100000:=by omega
  obtain⟨ay,az⟩:=X;clear N O;have⟨ad,h',ae,ab,ac,ag,V,f⟩:=hyd8 hv h M H o k1 U F;have⟨y,R,P⟩:=hyd3 E D C;clear C D E F U k1 o H M h hv;go_enter Try.func21,Try.ntmps21;go_wp2_with (fail);go_at_call 30;refine ag.out.mono ?_;rintro e W1 ⟨v1,rfl,B,I⟩;have k2:=qGc v1 (qAW x) W1 (I.base (Nat.zero_le _)) ac.out.ch;rw[V.out]at k2;have⟨G,au,ai⟩:=hyd3 B I k2;clear k2 I B;go_wp2_with (fail);go_at_call 29;refine ai.out.mono ?_;rintro e S ⟨v2,rfl,l,J⟩;have i:Le w S:=(show Le w W1 from G.out).trans l;have p:RowsJ (ratK .i64) 63 51 0 S v2 Q:=J.base0;have k3:=qFa v2 Q true (-1) S p y.out (λr o=>⟨(f.out r o).1,by have:=(f.out r o).2;omega⟩) rfl;rw[R.out]at k3;have⟨Y,av,q,L,ak⟩:=hyd5 l J i p k3;clear k3 p i J l;go_wp2_with (fail);go_at_call 46;refine ak.out.mono ?_;rintro e T ⟨rfl,g⟩;have j:Le w T:=(show Le w S from q.out).trans g;have k4:=qFa v2 Q false 1 T (L.out.le g) y.out (λr o=>⟨(f.out r o).1,by have:=(f.out r o).2;omega⟩) rfl;rw[P.out]at k4;have⟨Z,s,am⟩:=hyd3 g j k4;clear k4 j g;go_wp2_with (fail);go_at_call 46;refine am.out.mono ?_;rintro e W4 ⟨rfl,m⟩;have k:Le w W4:=(show Le w T from s.out).trans m;have⟨aa,t⟩:=hyd2 m k;clear k m
  go_wp2;go_ret;exact⟨rfl,t.out⟩
noncomputable def qEN (p:List FracA):Except Int Int:=
 match qA7 p with
 | .error z=> .error z
 | .ok x=>if x.length=0 then .error 6 else .ok (cntR x)
def qGF (p:List FracA):Prop:=∀x,qA7 p= .ok x->2<=x.length->RefRoom x
theorem qJk (p:List FracA) (vp:Value) (w:World) (hp:SeqE inK w vp p) (hroom:qGF p):
  Calls Try.prog 7 #[vp] w λe w'=>e= .returned (.tuple #[.int .i64 (valI (qEN p)),.int .i64 (qAo (qEN p))])/\Le w w':=by
 obtain⟨res,m⟩:∃r,qEN p=r:=⟨_,rfl⟩;rw[m];have O:=qF6 vp p w hp;have⟨T,M,t,q⟩:=hyd4 hp O m hroom;clear hroom m O hp;go_enter Try.func7,Try.ntmps7;go_wp2_with (fail);go_at_call 20;refine M.out.mono ?_;rintro e N ⟨g,Z,E,rfl,F⟩;have b:=t.out;unfold qEN at b
 cases hl:qA7 p with
 | error z=>
  rw[hl]at F b;obtain⟨rfl,rfl⟩:=F;dsimp only at b;have U:E≠0:=by rcases qG2 hl with h|h<;>omega
  have V:(E==0)=false:=by simpa using U
  subst b;have⟨f,C⟩:=hyd2 g hl;clear hl g;go_wp2;exact bodyPost_ret (v:= .tuple #[.int .i64 (valI (.error E)),.int .i64 (qAo (.error E))]) (by simp[results,Try.results7,go_sem,valI,qAo]) rfl ⟨rfl,f.out⟩
 | ok l=>
  rw[hl]at F b;obtain⟨d,rfl⟩:=F;dsimp only at b;obtain⟨y,s,-⟩:=qBA hl;obtain⟨A,c,rfl⟩:=d.slice
  by_cases B:l.length=0
  ·rw[if_pos B]at b;subst b;have i:=d;rw[B]at i ⊢;have⟨f,C,x,G,D⟩:=hyd5 g hl d i s;clear s i d hl g;go_wp2;exact bodyPost_ret (v:= .tuple #[.int .i64 (valI (.error 6)),.int .i64 (qAo (.error 6))]) (by simp[results,Try.results7,go_sem,valI,qAo]) rfl ⟨rfl,f.out⟩
  ·rw[if_neg B]at b;subst b;have J:=qI2 _ l N (d.base (Nat.zero_le _)) y (λR=>q.out l hl R);obtain⟨n,I⟩:∃n,l.length=n:=⟨_,rfl⟩;rw[I]at d J B ⊢;have X:((n:Int)==0)=false:=by simpa using B
   have Y:¬(n:Int)=0:=by omega
   have⟨f,C,x,D,L,S,P⟩:=hyd7 g hl d s J I y;clear y I J s d hl g;go_wp2_with (fail);go_at_call 21;refine L.out.mono ?_;rintro e Q ⟨rfl,k⟩;have j:Le w Q:=(show Le w N from f.out).trans k;have⟨H,o⟩:=hyd2 k j;clear j k;go_wp2;exact bodyPost_ret (v:= .tuple #[.int .i64 (valI (.ok (cntR l))),.int .i64 (qAo (.ok (cntR l)))]) (by simp[results,Try.results7,go_sem,valI,qAo]) rfl ⟨rfl,o.out⟩
end Go.Proofs.Ytcoajjdhkhgfdaa
