/- Polynomials: what comes in, what goes out, zeros at the end cut off. Rows of structs: a store into an element; rows of elements that may not be set yet. -/
import Derived.Test.YtcoajjdhkhgfdaaGreatPk23
namespace Go.Proofs.YtcoajjdhkhgfdaaGreat
set_option maxRecDepth 100000
set_option maxHeartbeats 1000000
open Go.RowKit Go.Shelf
set_option linter.unusedVariables false
set_option linter.unusedSimpArgs false
noncomputable def inE (x:FracA):Except Int Rat:=
 match x.rat? with
 | some r=> .ok r
 | none=> .error 10
def qAT (rs:List Rat):Bool:=decide (rs.length=0)|| !decide (rs.getD (rs.length - 1) 0=0)
noncomputable def qAC (l:List FracA):Except Int (List Rat):=
 if 65<l.length then .error 4 else match mapE inE l with
  | .error z=> .error z
  | .ok rs=>if qAT rs then .ok rs else .error 10
noncomputable def qAR (rs:List Rat):Except Int (List Rat):=if 65<rs.length then .error 12 else mapE outR rs
def topN (l:List Rat):Nat->Nat
 | 0=>0
 | n+1=>if l.getD n 0=0 then topN l n else n+1
theorem qGe (l:List Rat):∀n,topN l n<=n
 | 0=>Nat.le_refl _
 | n+1=>by
  unfold topN
  split
  ·exact Nat.le_succ_of_le (qGe l n)
  ·exact Nat.le_refl _
def cutz (l:List Rat):List Rat:=l.take (topN l l.length)
theorem qCV {α β:Type} {f:α->Except Int β}:∀{l:List α} {ys:List β},mapE f l= .ok ys->ys.length=l.length
 | [],ys,h=>by
  have:ys=[]:=by simpa[mapE]using h.symm
  subst this;rfl
 | a::l,ys,h=>by
  cases ha:f a with
  | error z=>simp[mapE,ha]at h
  | ok b=>
   cases hl:mapE f l with
   | error z=>simp[mapE,ha,hl]at h
   | ok bs=>
    have:b::bs=ys:=by simpa[mapE,ha,hl]using h
    subst this;simp[qCV hl]
theorem RowE.take {α:Type} {K:EK α} {e:TypeId} {base:Nat} {w:World} {A:Option Addr} {c:Nat} {xs:List α} (h:RowE K e base w (.slice A xs.length c) xs) {m:Nat} (hm:m<=xs.length):RowE K e base w (.slice A m c) (xs.take m):=by
 obtain⟨b,p,v,x,q⟩:=h;have n:=qFQ p q;have d:(xs.take m).length =m:=by rw[List.length_take];omega
 have i:∀l∈b.take m,l.length=K.sz:=λl s=>n l (List.mem_of_mem_take s);refine⟨b.take m,by rw[List.length_take,List.length_take,p],⟨?_,?_⟩,λg f t k=>x g f t (by cases A with |none=>cases k|some a=>exact k),λj r=>?_⟩
 ·rw[qCU _ i,List.length_take,d];congr 1;omega
 ·rw[d]
  rcases v.2 with⟨hv,s⟩| ⟨g,cap,f,hv,hbg,k,hnc,hcm,hcsz,htake⟩
  ·injection hv with e1 e2 e3;subst e1 e3;exact .inl ⟨by rw[show m=0 by omega],by omega⟩
  ·injection hv with e1 e2 e3;subst e1 e3;refine .inr ⟨g,c,f,rfl,hbg,k,by omega,hcm,hcsz,?_⟩
   have y:b.flatten.take (m*K.sz)=(b.take m).flatten :=by
    have z:b.flatten=(b.take m).flatten ++(b.drop m).flatten :=by rw[<-List.flatten_append,List.take_append_drop]
    rw[z,List.take_append_of_le_length (by rw[qCU _ i,List.length_take,show min m b.length=m by omega];exact Nat.le_refl _),List.take_of_length_le (by rw[qCU _ i,List.length_take,show min m b.length=m by omega];exact Nat.le_refl _)]
   rw[<-y,<-htake,List.take_take,Nat.min_eq_left (Nat.mul_le_mul_right _ hm)]
 ·have o:j<m:=by rw[d]at r;exact r
  have hq:=q j (by omega);rw[List.getElem_take];rw[List.getD_eq_getElem?_getD]at hq ⊢;rw[List.getElem?_take,if_pos o];exact hq
theorem qKE (base:Nat) (v:Value) (xs:List Rat) (w:World) (hv:RowE (ratK .u32) 58 base w v xs) (hl:xs.length<=1000000):
  Calls Tryz.prog 29 #[v] w λe w'=>∃A c,v= .slice A xs.length c/\e= .returned (.slice A (topN xs xs.length) c)/\Le w w'/\RowE (ratK .u32) 58 base w' (.slice A (topN xs xs.length) c) (cutz xs):=by
 obtain⟨A,c,rfl⟩:=hv.slice;obtain⟨n,Q⟩:∃n,xs.length=n:=⟨_,rfl⟩;rw[Q]at hl;have⟨z,h⟩:=hyd2 hv Q;clear Q hv;rw[h.out];rw[h.out]at z;go_enter Tryz.func29,Tryz.ntmps29;go_wp2_with (fail);go_loopw [0] (λs wr=>∃m:Nat,s= .slice A m c/\m<=n/\Hid (topN xs n=topN xs m)/\Hid (Below w.heap.size w wr)) (λs _=>qCB s)
 case atStart=>exact⟨n,rfl,Nat.le_refl _,Lib.hid rfl,Lib.hid (Below.refl _ _)⟩
 case round=>
  obtain⟨m,rfl,hm,E,D⟩:=hrel
  by_cases h0:m=0
  ·subst h0;have d:=D.out;have r:=z.out.le d;have⟨j,t⟩:=hyd2 d r;clear r d;go_wp2;go_ret;rw[E.out];refine⟨A,c,rfl,rfl,j.out,?_⟩;have B:=RowE.take (xs:=xs) (m:=0) (A:=A) (c:=c) (by rw[h.out];exact t.out) (Nat.zero_le _);unfold cutz;rw[h.out,E.out];exact B
  ·obtain⟨k,rfl⟩:∃k,m=k+1:=⟨m - 1,by omega⟩;have G:k<xs.length:=by rw[h.out];omega
   obtain⟨g,c',L,ab,ac,R,P,cs,I,O⟩:=(z.out.le D.out).at G;rw[h.out]at L R;unfold maxLen at P;injection L with L e2 e3;subst L e3;clear e2;have F:xs.getD k 0=xs[k]:=by rw[List.getD_eq_getElem?_getD,List.getElem?_eq_getElem G];rfl
   have l:topN xs (k+1)=if xs.getD k 0=0 then topN xs k else k+1:=rfl;rw[F]at l;generalize xs[k]=x at I F l;obtain⟨s1,U,n1,Y,V,m1,Z,rfl,y⟩:=I;have q0:wr.cell? ⟨g,k*3,none⟩=some (.bool s1):=O 0 _ rfl;have q1:wr.cell? ⟨g,k*3+1,none⟩=some (.slice U n1 Y):=O 1 _ rfl;have q2:wr.cell? ⟨g,k*3+2,none⟩=some (.slice V m1 Z):=O 2 _ rfl;have b:=qHm _ x _ wr y
   by_cases M:x=0
   ·have N:rsgn x=0:=by rw[M];rfl
    rw[N]at b;rw[if_pos M,<-E.out]at l;have q:=D.out;have⟨f,J,p,i⟩:=hyd4 b y l q;clear q l y b;clear D E;go_wp2_with (fail);go_at_call 60;refine f.out.mono ?_;rintro e X ⟨rfl,o⟩;have d:=(show Below w.heap.size w wr from i.out).trans (o.mono (i.out).size);have⟨H,j⟩:=hyd2 o d;clear d o;go_wp2;go_roundw
    case rel=>exact⟨k,by go_num,by omega,p,j⟩
    case measure=>simp[qCB]
   ·have N:¬rsgn x=0:=by unfold rsgn;simpa using M
    have S:(rsgn x==0)=false:=by simpa using N
    rw[if_neg M,<-E.out]at l;have q:=D.out;obtain⟨sg,C⟩:∃sg,rsgn x=sg:=⟨_,rfl⟩;rw[C]at b N S;have⟨f,J,p,i,T⟩:=hyd5 b y l q C;clear C q l y b;clear D E;go_wp2_with (fail);go_at_call 60;refine f.out.mono ?_;rintro e X ⟨rfl,o⟩;have d:=(show Below w.heap.size w wr from i.out).trans (o.mono (i.out).size);have r:=z.out.le d;have⟨H,j,t⟩:=hyd3 o d r;clear r d o;go_wp2;go_ret;rw[p.out];refine⟨_,c,rfl,rfl,j.out,?_⟩;have B:=RowE.take (xs:=xs) (m:=k+1) (A:=some ⟨g,0,none⟩) (c:=c) (by rw[h.out];exact t.out) (by rw[h.out];exact hm);unfold cutz;rw[h.out,p.out];exact B
theorem qKr:qAS Tryz.prog 52:=λ_ _=>by kernel_rfl
theorem qKF:qAS Tryz.prog 53:=λ_ _=>by kernel_rfl
theorem qMQ (W:World) (x:FracA):ElOk Tryz.prog inK (ratK .u32) inE 52 #[] #[] W x:=by
 rintro n ⟨A,c,B,d,rfl,h⟩
 cases hr:x.rat? with
 | some r=>
  refine(qGL (λ_=>True) x r _ W (Up.any _) h hr).mono ?_;rintro e i ⟨o,rfl,b,g⟩;have f:=g;obtain⟨j,l,k,m,rfl,-,-⟩:=g.form;exact⟨b,.inl ⟨r,_,by unfold inE;rw[hr],rfl,_,_,_,_,_,_,_,rfl,f⟩⟩
 | none=>
  refine(qGM (λ_=>True) x _ W (Up.any _) h hr).mono ?_;rintro e i ⟨rfl,b⟩;exact⟨b,.inr ⟨10,by unfold inE;rw[hr],rfl⟩⟩
theorem qMB (L:Nat->Prop) (W:World) (hL:Up W L) (r:Rat):ElOk Tryz.prog (ratK .u32) (frK L) outR 53 #[] #[] W r:=by
 rintro p ⟨s,A,n,c,B,m,d,rfl,i⟩
 by_cases f:Rsz r 40
 ·refine(qGx L (λ_=>True) r _ W hL i f).mono ?_;rintro e j ⟨t,rfl,b,h⟩;have g:=h;obtain⟨k,o,l,q,rfl,-,-⟩:=h;exact⟨b,.inl ⟨r,_,qEB f,rfl,_,_,_,_,_,_,_,_,rfl,g⟩⟩
 ·refine(qGy (λ_=>True) r _ W i f).mono ?_;rintro e j ⟨rfl,b⟩;exact⟨b,.inr ⟨12,qEC f,rfl⟩⟩
theorem qCf (L:Nat->Prop) (v:Value) (rs:List Rat) (w:World) (hL:Up w L) (hv:SeqE (ratK .u32) w v rs):
  Calls Tryz.prog 28 #[v] w (MapPost (frK L) 27 w (qAR rs)):=by
 obtain⟨A,c,rfl,m,p,-⟩:=hv.slice;unfold maxLen at p
 have b:rs.length<=65->Calls Tryz.prog 66 #[.slice A rs.length c,.func (.func 53) #[] #[]] w (MapPost (frK L) 27 w (mapE outR rs)):=λh=>
  qJP L outR 53 #[] #[] _ rs w hv (by omega) qKF λW G x _=>qMB L W (hL.le G) x
 by_cases h:65<rs.length
 ·have i:qAR rs= .error 12:=by unfold qAR;rw[if_pos h]
  rw[i];obtain⟨n,j⟩:∃n,rs.length=n:=⟨_,rfl⟩;rw[j]at h m;have F:¬(n:Int)<=65:=by omega
  have⟨t,s,o,k⟩:=hyd4 hv b i j;clear j i b hv;rw[k.out];go_enter Tryz.func28,Tryz.ntmps28;go_wp2_with (fail);go_at_call 39;refine(qAy _ _).mono ?_;rintro e E ⟨rfl,rfl⟩;go_wp2_with (fail);exact⟨rfl,Le.refl _,.inr ⟨12,rfl,rfl⟩⟩
 ·have i:qAR rs=mapE outR rs:=by unfold qAR;rw[if_neg h]
  rw[i];have q:=b (by omega);obtain⟨n,j⟩:∃n,rs.length=n:=⟨_,rfl⟩;rw[j]at h m q;have F:(n:Int)<=65:=by omega
  clear b;have⟨t,o,k,r⟩:=hyd4 hv i j q;clear q j i hv;rw[k.out];go_enter Tryz.func28,Tryz.ntmps28;go_wp2_with (fail);go_at_call 39;refine(qBE _ _).mono ?_;rintro e E ⟨rfl,rfl⟩;go_wp2_with (fail);go_at_call 66;refine r.out.mono ?_;rintro e I ⟨f,⟨H,J,C,rfl,g⟩| ⟨z,D,rfl⟩⟩
  ·have⟨d,y,l⟩:=hyd3 f C g;clear g C f;go_wp2;go_ret;exact⟨d.out,.inl ⟨H,_,y.out,rfl,l.out⟩⟩
  ·have⟨d,B⟩:=hyd2 f D;clear D f;go_wp2_with (fail);exact⟨rfl,d.out,.inr ⟨z,B.out,rfl⟩⟩
theorem qBR (v:Value) (l:List FracA) (w:World) (hv:SeqE inK w v l):
  Calls Tryz.prog 26 #[v] w (MapPost (ratK .u32) 58 w (qAC l)):=by
 obtain⟨A,c,rfl,V,ai,-⟩:=hv.slice;unfold maxLen at ai
 by_cases h:65<l.length
 ·have S:qAC l= .error 4:=by unfold qAC;rw[if_pos h]
  rw[S];obtain⟨n,R⟩:∃n,l.length=n:=⟨_,rfl⟩;rw[R]at h V;have h2:¬(n:Int)<=65:=by omega
  have⟨al,P,J⟩:=hyd3 hv S R;clear R S hv;rw[J.out];go_enter Tryz.func26,Tryz.ntmps26;go_wp2_with (fail);go_at_call 39;refine(qAy _ _).mono ?_;rintro e W3 ⟨rfl,rfl⟩;go_wp2_with (fail);exact⟨rfl,Le.refl _,.inr ⟨4,rfl,rfl⟩⟩
 ·have S:qAC l=match mapE inE l with
   | .error z=> .error z
   | .ok rs=>if qAT rs then .ok rs else .error 10:=by unfold qAC;rw[if_neg h]
  have hm:=qKB inE 52 #[] #[] _ l w hv (by omega) qKr λW hW x _=>qMQ W x;obtain⟨n,R⟩:∃n,l.length=n:=⟨_,rfl⟩;rw[R]at h V hm;have h2:(n:Int)<=65:=by omega
  have⟨al,P,J,ak⟩:=hyd4 hv S R hm;clear hm R S hv;rw[J.out];go_enter Tryz.func26,Tryz.ntmps26;go_wp2_with (fail);go_at_call 39;refine(qBE _ _).mono ?_;rintro e W3 ⟨rfl,rfl⟩;go_wp2_with (fail);go_at_call 59;refine ak.out.mono ?_;rintro e W4 ⟨s,⟨F,v4,N,rfl,d⟩| ⟨z,hz,rfl⟩⟩
  ·have p:F.length=n:=(qCV N).trans J.out;have t:=P.out;rw[N]at t;change qAC l=if qAT F then .ok F else .error 10 at t;obtain⟨A4,c4,rfl⟩:=d.slice
   by_cases h0:n=0
   ·have ht:qAT F=true:=by unfold qAT;rw[p,h0];rfl
    rw[ht,if_pos rfl]at t;subst h0;have b:=d;rw[p]at b ⊢;have⟨m,ac,G,i,y,O⟩:=hyd6 s N d b t p;clear p t b d N s;go_wp2_with (fail);go_at_call 39;refine(qBE _ _).mono ?_;rintro e W3 ⟨rfl,rfl⟩;go_wp2;go_ret;exact⟨m.out,.inl ⟨F,_,y.out,rfl,i.out⟩⟩
   ·obtain⟨k,rfl⟩:∃k,n=k+1:=⟨n - 1,by omega⟩;have U:k<F.length:=by omega
    obtain⟨g,c',e3,aw,ax,-,-,cs,X,hc⟩:=d.at U;injection e3 with e3 e4 e5;subst e3 e5;clear e4;have C:F.getD (F.length - 1) 0=F[k]:=by rw[p,List.getD_eq_getElem?_getD,show k+1 - 1=k by omega,List.getElem?_eq_getElem U];rfl
    have B:qAT F= !decide (F[k]=0):=by unfold qAT;rw[C,p];simp
    generalize F[k]=x at X C B;obtain⟨s1,A1,n1,c1,B1,m1,d1,rfl,I⟩:=X;have q0:W4.cell? ⟨g,k*3,none⟩=some (.bool s1):=hc 0 _ rfl;have q1:W4.cell? ⟨g,k*3+1,none⟩=some (.slice A1 n1 c1):=hc 1 _ rfl;have q2:W4.cell? ⟨g,k*3+2,none⟩=some (.slice B1 m1 d1):=hc 2 _ rfl;have j:=qHm _ x _ W4 I;obtain⟨sg,D⟩:∃sg,rsgn x=sg:=⟨_,rfl⟩;have E:(sg=0)↔x=0:=by rw[<-D];unfold rsgn;simp
    rw[D]at j;have b:=d;rw[p]at b ⊢
    by_cases hx:x=0
    ·have M:sg=0:=E.2 hx;subst M;rw[B,decide_eq_true hx]at t;have⟨m,ac,G,i,y,O,q,Y⟩:=hyd8 s N d b t p j D;have⟨Z,aa,T,ab⟩:=hyd4 E B C I;clear I C B E D j p t b d N s;go_wp2_with (fail);go_at_call 60;refine q.out.mono ?_;rintro e W5 ⟨rfl,f⟩;have o:=m.out.trans f;have⟨Q,r⟩:=hyd2 f o;clear o f;go_wp2_with (fail);go_at_call 39;refine(qAy _ _).mono ?_;rintro e W3 ⟨rfl,rfl⟩;go_wp2_with (fail);exact⟨rfl,r.out,.inr ⟨10,y.out,rfl⟩⟩
    ·have M:¬sg=0:=λh=>hx (E.1 h);have ay:(sg==0)=false:=by simpa using M
     have az:(sg != 0)=true:=by simpa using M
     rw[B,decide_eq_false hx]at t;have⟨m,ac,G,i,y,O,q,Y⟩:=hyd8 s N d b t p j D;have⟨Z,aa,T,ab⟩:=hyd4 E B C I;clear I C B E D j p t b d N s;go_wp2_with (fail);go_at_call 60;refine q.out.mono ?_;rintro e W5 ⟨rfl,f⟩;have o:=m.out.trans f;have H:=i.out.le f;have⟨Q,r,L⟩:=hyd3 f o H;clear H o f;go_wp2_with (fail);go_at_call 39;refine(qBE _ _).mono ?_;rintro e W3 ⟨rfl,rfl⟩;go_wp2;go_ret;exact⟨r.out,.inl ⟨F,_,y.out,rfl,L.out⟩⟩
  ·have t:=P.out;rw[hz]at t;have⟨m,a1,y⟩:=hyd3 s hz t;clear t hz s;go_wp2_with (fail);exact⟨rfl,m.out,.inr ⟨z,y.out,rfl⟩⟩
def setL:List Value->Nat->List Value->List Value
 | l,_,[]=>l
 | l,o,u::us=>setL (l.set o u) (o+1) us
theorem qJQ (c r:List Value):∀(us:List Value) (o:Nat),setL (c++r) (c.length+o) us=c++setL r o us:=by
 intro us
 induction us generalizing r with
 | nil=>intro o;rfl
 | cons u us ih=>
  intro o;show setL ((c++r).set (c.length+o) u) (c.length+o+1) us=c++setL (r.set o u) (o+1) us;rw[List.set_append_right _ _ (by omega),Nat.add_sub_cancel_left,Nat.add_assoc];exact ih (r.set o u) (o+1)
theorem qHB:∀(us c a r:List Value),us.length=c.length->setL (a++(c++r)) a.length us=a++(us++r)
 | [],c,a,r,h=>by
  have:c=[]:=List.eq_nil_of_length_eq_zero (by simpa using h.symm);subst this;rfl
 | u::us,c,a,r,h=>by
  cases c with
  | nil=>simp at h
  | cons x c=>
   show setL ((a++(x::c++r)).set a.length u) (a.length+1) us=_
   rw[List.set_append_right _ _ (by omega),Nat.sub_self];have h1:=qHB us c (a++[u]) r (by simpa using h);simp only[List.append_assoc,List.singleton_append,List.length_append,List.length_cons,List.length_nil]at h1;simpa using h1
theorem qEx {k:Nat}:∀(css:List (List Value)),(∀c∈css,c.length=k)->∀(i:Nat) (us:List Value),i<css.length->us.length=k->setL css.flatten (i*k) us=(css.set i us).flatten
 | c::cs,h,0,us,_,hu=>by
  have hc:=h c (by simp);have:=qHB us c [] cs.flatten (by rw[hu,hc]);simpa using this
 | c::cs,h,i+1,us,hi,hu=>by
  have hc:=h c (by simp);have ih:=qEx cs (λx hx=>h x (by simp[hx])) i us (by simpa using hi) hu;rw[List.flatten_cons,show(i+1)*k=c.length+i*k by rw[hc,Nat.add_mul];omega,qJQ,ih];simp
theorem qEy {base:Nat} {e:TypeId} {sz g n cap:Nat}:∀(us:List Value) (o:Nat) (w:World) (xs:List Value),w.ownsRow base e sz (.slice (some ⟨g,0,none⟩) n cap) n xs->(w.setCells g o us).ownsRow base e sz (.slice (some ⟨g,0,none⟩) n cap) n (setL xs o us)
 | [],o,w,xs,h=>h
 | u::us,o,w,xs,h=>qEy us (o+1) _ _ (h.stored o u).1
theorem qGf {p:Value->Prop} {w:World} {v:Value} {g o:Nat} {u:Value} (h:RowAll p w v) (hu:p u):RowAll p (w.setCell ⟨g,o,none⟩ u) v:=by
 intro b d t i c x f
 by_cases e:b=g
 ·subst e;simp only[World.setCell,Array.getElem?_modify]at c
  cases hw:w.heap[b]? with
  | none=>rw[hw]at c;simp at c
  | some ob=>
   rw[hw]at c
   cases ob with
   | cells c0 t0 z0=>
    simp at c;obtain⟨j,k,l⟩:=c;subst j k l;rw[Array.toList_setIfInBounds]at f
    rcases List.mem_or_eq_of_mem_set f with h4|rfl
    ·exact h b c0 t0 i hw x h4
    ·exact hu
   | _=>simp at c
 ·rw[Below.heap_setCell _ ⟨g,o,none⟩ _ b e]at c;exact h b d t i c x f
theorem qDj {p:Value->Prop} {v:Value} {g:Nat}:∀(us:List Value) (o:Nat) (w:World),RowAll p w v->(∀u∈us,p u)->RowAll p (w.setCells g o us) v
 | [],o,w,h,_=>h
 | u::us,o,w,h,hu=>qDj us (o+1) _ (qGf h (hu u (by simp))) (λx hx=>hu x (by simp[hx]))
theorem qAa {g b:Nat} (hb:b≠g):∀(us:List Value) (o:Nat) (w:World),(w.setCells g o us).heap[b]? =w.heap[b]?
 | [],o,w=>rfl
 | u::us,o,w=>(qAa hb us (o+1) _).trans (Below.heap_setCell _ ⟨g,o,none⟩ _ b hb)
theorem qA7 {n g:Nat} (hg:n<=g):∀(us:List Value) (o:Nat) (w W:World),Below n w W->Below n w (W.setCells g o us)
 | [],o,w,W,h=>h
 | u::us,o,w,W,h=>qA7 hg us (o+1) w _ (h.setCell (p:=⟨g,o,none⟩) hg u)
theorem RowE.store {α:Type} {K:EK α} {e:TypeId} {base:Nat} {w:World} {g c:Nat} {xs:List α} {n:Nat} (h:RowE K e base w (.slice (some ⟨g,0,none⟩) n c) xs) {i:Nat} (hi:i<xs.length) {cs:List Value} {y:α} (hr:K.rd w cs y):
  RowE K e base (w.setCells g (i*K.sz) cs) (.slice (some ⟨g,0,none⟩) n c) (xs.set i y)/\Kp K.ik w (w.setCells g (i*K.sz) cs):=by
 have v:=(h.nib (g:=g) rfl).2.2;obtain⟨b,p,q,s,r⟩:=h;have f:=qFQ p r
 have o:n=xs.length:=by
  rcases q.2 with⟨hv,-⟩| ⟨g',cap,cur,hv,-⟩
  ·cases hv
  ·injection hv
 subst o;have m:=(qBQ (k:=K.ik) cs w (i*K.sz) v (K.ni hr)).1;refine⟨⟨b.set i cs,by simp[p],?_,qDj cs _ w s (K.ni hr),λj t=>?_⟩,m⟩
 ·have:=qEy cs (i*K.sz) w b.flatten q;rw[qEx b f i cs (by omega) (K.len hr)]at this;rw[List.length_set];exact this
 ·have l:j<xs.length:=by simpa using t
  rw[List.getD_eq_getElem?_getD,List.getElem?_set,List.getElem_set]
  by_cases d:i=j
  ·subst d;rw[if_pos rfl,if_pos rfl,if_pos (by omega)];exact K.kp hr m
  ·rw[if_neg d,if_neg d,<-List.getD_eq_getElem?_getD];exact K.kp (r j l) m
def optK {α:Type} (K:EK α) (zs:List Value) (hz:zs.length=K.sz) (h1:∀u∈zs,u.oneCell'=true) (hn:∀u∈zs,NI K.ik u):EK (Option α) where
 ik:=K.ik
 sz:=K.sz
 pos:=K.pos
 small:=K.small
 rd w cs o:=match o with
  | some a=>K.rd w cs a
  | none=>cs=zs
 len:=by
  intro w cs o h
  cases o with
  | some a=>exact K.len h
  | none=>change cs=zs at h;subst h;exact hz
 one:=by
  intro w cs o h
  cases o with
  | some a=>exact K.one h
  | none=>change cs=zs at h;subst h;exact h1
 ni:=by
  intro w cs o h
  cases o with
  | some a=>exact K.ni h
  | none=>change cs=zs at h;subst h;exact hn
 kp:=by
  intro w W cs o h hk
  cases o with
  | some a=>exact K.kp h hk
  | none=>exact h
def ratO (k:IntKind):EK (Option Rat):=optK (ratK k) [.bool false,.slice none 0 0,.slice none 0 0] rfl (λu hu=>by simp only[List.mem_cons,List.not_mem_nil,or_false]at hu;rcases hu with rfl|rfl|rfl<;>rfl)
 (λu hu=>by simp only[List.mem_cons,List.not_mem_nil,or_false]at hu;rcases hu with rfl|rfl|rfl<;>first |exact qAK _|exact qAB _ _ _)
theorem RowE.allSet {k:IntKind} {e:TypeId} {base:Nat} {w:World} {v:Value} {os:List (Option Rat)} {xs:List Rat} (h:RowE (ratO k) e base w v os) (ho:os=xs.map some):RowE (ratK k) e base w v xs:=by
 subst ho;obtain⟨b,c,d,f,g⟩:=h;rw[List.length_map]at c d;refine⟨b,c,d,f,λj i=>?_⟩;have:=g j (by simpa using i);simp only[List.getElem_map]at this;exact this
end Go.Proofs.YtcoajjdhkhgfdaaGreat
