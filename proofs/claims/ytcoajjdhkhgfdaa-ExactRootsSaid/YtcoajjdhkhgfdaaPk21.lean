/- exact.run at lists and at pairs of lists. (Printed by gen_runsl.py.) Polynomials: what comes in, what goes out, zeros at the end cut off. -/
import Derived.Test.YtcoajjdhkhgfdaaPk20
namespace Go.Proofs.Ytcoajjdhkhgfdaa
set_option maxRecDepth 100000
open Go.RowKit Go.Shelf
set_option linter.unusedVariables false
set_option linter.unusedSimpArgs false
theorem nib1 {W:World} {B:Nat} {x:Value} {t:TypeId} (h:W.heap[B]? =some (.cells #[x] t)) (hx:NI .u32 x):NIB .u32 W B:=⟨_,_,h,λu hu=>by simp at hu;subst hu;exact hx⟩
theorem nib2 {W:World} {B:Nat} {x y:Value} {t:TypeId} (h:W.heap[B]? =some (.cells #[x,y] t)) (hx:NI .u32 x) (hy:NI .u32 y):NIB .u32 W B:=⟨_,_,h,λu hu=>by simp at hu;rcases hu with rfl|rfl<;>assumption⟩
theorem qC2 {W:World} {B:Nat} {cs:Array Value} {t:TypeId} (h:W.heap[B]? =some (.cells cs t)) (i:Nat) (v:Value):(W.setCell ⟨B,i,none⟩ v).heap[B]? =some (.cells (cs.setIfInBounds i v) t):=by
 simp only[World.setCell,Array.getElem?_modify,h];simp
theorem qKN (z:Int):NI .u32 (.int .i64 z):=λ_ h=>by cases h
set_option maxHeartbeats 1000000
noncomputable def inE (x:FracA):Except Int Rat:=
 match x.rat? with
 | some r=> .ok r
 | none=> .error 10
def qAD (rs:List Rat):Bool:=decide (rs.length=0)|| !decide (rs.getD (rs.length - 1) 0=0)
noncomputable def qA7 (l:List FracA):Except Int (List Rat):=
 if 65<l.length then .error 4 else match mapE inE l with
  | .error z=> .error z
  | .ok rs=>if qAD rs then .ok rs else .error 10
def topN (l:List Rat):Nat->Nat
 | 0=>0
 | n+1=>if l.getD n 0=0 then topN l n else n+1
theorem qIr (l:List Rat):∀n,topN l n<=n
 | 0=>Nat.le_refl _
 | n+1=>by
  unfold topN
  split
  ·exact Nat.le_succ_of_le (qIr l n)
  ·exact Nat.le_refl _
def cutz (l:List Rat):List Rat:=l.take (topN l l.length)
theorem qDF {α β:Type} {f:α->Except Int β}:∀{l:List α} {ys:List β},mapE f l= .ok ys->ys.length=l.length
 | [],ys,h=>by
  have:ys=[]:=by simpa[mapE]using h.symm
  subst this;rfl
 | a::l,ys,h=>by
  cases ha:f a with
  | error z=>simp[mapE,ha]at h
  | ok b=>
   cases hl:mapE f l with
   | error z=>simp[mapE,ha,hl]at h
   | ok bs=>
    have:b::bs=ys:=by simpa[mapE,ha,hl]using h
    subst this;simp[qDF hl]
theorem RowE.take {α:Type} {K:EK α} {e:TypeId} {base:Nat} {w:World} {A:Option Addr} {c:Nat} {xs:List α} (h:RowE K e base w (.slice A xs.length c) xs) {m:Nat} (hm:m<=xs.length):RowE K e base w (.slice A m c) (xs.take m):=by
 obtain⟨b,p,v,x,q⟩:=h;have n:=qFT p q;have d:(xs.take m).length =m:=by rw[List.length_take];omega
 have i:∀l∈b.take m,l.length=K.sz:=λl s=>n l (List.mem_of_mem_take s);refine⟨b.take m,by rw[List.length_take,List.length_take,p],⟨?_,?_⟩,λg f t k=>x g f t (by cases A with |none=>cases k|some a=>exact k),λj r=>?_⟩
 ·rw[qCY _ i,List.length_take,d];congr 1;omega
 ·rw[d]
  rcases v.2 with⟨hv,s⟩| ⟨g,cap,f,hv,hbg,k,hnc,hcm,hcsz,htake⟩
  ·injection hv with e1 e2 e3;subst e1 e3;exact .inl ⟨by rw[show m=0 by omega],by omega⟩
  ·injection hv with e1 e2 e3;subst e1 e3;refine .inr ⟨g,c,f,rfl,hbg,k,by omega,hcm,hcsz,?_⟩
   have y:b.flatten.take (m*K.sz)=(b.take m).flatten :=by
    have z:b.flatten=(b.take m).flatten ++(b.drop m).flatten :=by rw[<-List.flatten_append,List.take_append_drop]
    rw[z,List.take_append_of_le_length (by rw[qCY _ i,List.length_take,show min m b.length=m by omega];exact Nat.le_refl _),List.take_of_length_le (by rw[qCY _ i,List.length_take,show min m b.length=m by omega];exact Nat.le_refl _)]
   rw[<-y,<-htake,List.take_take,Nat.min_eq_left (Nat.mul_le_mul_right _ hm)]
 ·have o:j<m:=by rw[d]at r;exact r
  have hq:=q j (by omega);rw[List.getElem_take];rw[List.getD_eq_getElem?_getD]at hq ⊢;rw[List.getElem?_take,if_pos o];exact hq
theorem qMC (base:Nat) (v:Value) (xs:List Rat) (w:World) (hv:RowE (ratK .u32) 57 base w v xs) (hl:xs.length<=1000000):
  Calls Try.prog 70 #[v] w λe w'=>∃A c,v= .slice A xs.length c/\e= .returned (.slice A (topN xs xs.length) c)/\Le w w'/\RowE (ratK .u32) 57 base w' (.slice A (topN xs xs.length) c) (cutz xs):=by
 obtain⟨A,c,rfl⟩:=hv.slice;obtain⟨n,Q⟩:∃n,xs.length=n:=⟨_,rfl⟩;rw[Q]at hl;have⟨z,h⟩:=hyd2 hv Q;clear Q hv;rw[h.out];rw[h.out]at z;go_enter Try.func70,Try.ntmps70;go_wp2_with (fail);go_loopw [0] (λs wr=>∃m:Nat,s= .slice A m c/\m<=n/\Hid (topN xs n=topN xs m)/\Hid (Below w.heap.size w wr)) (λs _=>qBa s)
 case atStart=>exact⟨n,rfl,Nat.le_refl _,Lib.hid rfl,Lib.hid (Below.refl _ _)⟩
 case round=>
  obtain⟨m,rfl,hm,E,D⟩:=hrel
  by_cases h0:m=0
  ·subst h0;have d:=D.out;have r:=z.out.le d;have⟨j,t⟩:=hyd2 d r;clear r d;go_wp2;go_ret;rw[E.out];refine⟨A,c,rfl,rfl,j.out,?_⟩;have B:=RowE.take (xs:=xs) (m:=0) (A:=A) (c:=c) (by rw[h.out];exact t.out) (Nat.zero_le _);unfold cutz;rw[h.out,E.out];exact B
  ·obtain⟨k,rfl⟩:∃k,m=k+1:=⟨m - 1,by omega⟩;have G:k<xs.length:=by rw[h.out];omega
   obtain⟨g,c',L,ab,ac,R,P,cs,I,O⟩:=(z.out.le D.out).at G;rw[h.out]at L R;unfold maxLen at P;injection L with L e2 e3;subst L e3;clear e2;have F:xs.getD k 0=xs[k]:=by rw[List.getD_eq_getElem?_getD,List.getElem?_eq_getElem G];rfl
   have l:topN xs (k+1)=if xs.getD k 0=0 then topN xs k else k+1:=rfl;rw[F]at l;generalize xs[k]=x at I F l;obtain⟨s1,U,n1,Y,V,m1,Z,rfl,y⟩:=I;have q0:wr.cell? ⟨g,k*3,none⟩=some (.bool s1):=O 0 _ rfl;have q1:wr.cell? ⟨g,k*3+1,none⟩=some (.slice U n1 Y):=O 1 _ rfl;have q2:wr.cell? ⟨g,k*3+2,none⟩=some (.slice V m1 Z):=O 2 _ rfl;have b:=qFk _ x _ wr y
   by_cases M:x=0
   ·have N:rsgn x=0:=by rw[M];rfl
    rw[N]at b;rw[if_pos M,<-E.out]at l;have q:=D.out;have⟨f,J,p,i⟩:=hyd4 b y l q;clear q l y b;clear D E;go_wp2_with (fail);go_at_call 25;refine f.out.mono ?_;rintro e X ⟨rfl,o⟩;have d:=(show Below w.heap.size w wr from i.out).trans (o.mono (i.out).size);have⟨H,j⟩:=hyd2 o d;clear d o;go_wp2;go_roundw
    case rel=>exact⟨k,by go_num,by omega,p,j⟩
    case measure=>simp[qBa]
   ·have N:¬rsgn x=0:=by unfold rsgn;simpa using M
    have S:(rsgn x==0)=false:=by simpa using N
    rw[if_neg M,<-E.out]at l;have q:=D.out;obtain⟨sg,C⟩:∃sg,rsgn x=sg:=⟨_,rfl⟩;rw[C]at b N S;have⟨f,J,p,i,T⟩:=hyd5 b y l q C;clear C q l y b;clear D E;go_wp2_with (fail);go_at_call 25;refine f.out.mono ?_;rintro e X ⟨rfl,o⟩;have d:=(show Below w.heap.size w wr from i.out).trans (o.mono (i.out).size);have r:=z.out.le d;have⟨H,j,t⟩:=hyd3 o d r;clear r d o;go_wp2;go_ret;rw[p.out];refine⟨_,c,rfl,rfl,j.out,?_⟩;have B:=RowE.take (xs:=xs) (m:=k+1) (A:=some ⟨g,0,none⟩) (c:=c) (by rw[h.out];exact t.out) (by rw[h.out];exact hm);unfold cutz;rw[h.out,p.out];exact B
theorem qLH:qA8 Try.prog 23:=λ_ _=>by kernel_rfl
theorem qMP (W:World) (x:FracA):ElOk Try.prog inK (ratK .u32) inE 23 #[] #[] W x:=by
 rintro n ⟨A,c,B,d,rfl,h⟩
 cases hr:x.rat? with
 | some r=>
  refine(qE1 (λ_=>True) x r _ W (Up.any _) h hr).mono ?_;rintro e i ⟨o,rfl,b,g⟩;have f:=g;obtain⟨j,l,k,m,rfl,-,-⟩:=g.form;exact⟨b,.inl ⟨r,_,by unfold inE;rw[hr],rfl,_,_,_,_,_,_,_,rfl,f⟩⟩
 | none=>
  refine(qE2 (λ_=>True) x _ W (Up.any _) h hr).mono ?_;rintro e i ⟨rfl,b⟩;exact⟨b,.inr ⟨10,by unfold inE;rw[hr],rfl⟩⟩
theorem qHJ (v:Value) (l:List FracA) (w:World) (hv:SeqE inK w v l):
  Calls Try.prog 14 #[v] w (MapPost (ratK .u32) 57 w (qA7 l)):=by
 obtain⟨A,c,rfl,V,ai,-⟩:=hv.slice;unfold maxLen at ai
 by_cases h:65<l.length
 ·have S:qA7 l= .error 4:=by unfold qA7;rw[if_pos h]
  rw[S];obtain⟨n,R⟩:∃n,l.length=n:=⟨_,rfl⟩;rw[R]at h V;have h2:¬(n:Int)<=65:=by omega
  have⟨al,P,J⟩:=hyd3 hv S R;clear R S hv;rw[J.out];go_enter Try.func14,Try.ntmps14;go_wp2_with (fail);go_at_call 15;refine(qBL _ _).mono ?_;rintro e W3 ⟨rfl,rfl⟩;go_wp2_with (fail);exact⟨rfl,Le.refl _,.inr ⟨4,rfl,rfl⟩⟩
 ·have S:qA7 l=match mapE inE l with
   | .error z=> .error z
   | .ok rs=>if qAD rs then .ok rs else .error 10:=by unfold qA7;rw[if_neg h]
  have hm:=qKK inE 23 #[] #[] _ l w hv (by omega) qLH λW hW x _=>qMP W x;obtain⟨n,R⟩:∃n,l.length=n:=⟨_,rfl⟩;rw[R]at h V hm;have h2:(n:Int)<=65:=by omega
  have⟨al,P,J,ak⟩:=hyd4 hv S R hm;clear hm R S hv;rw[J.out];go_enter Try.func14,Try.ntmps14;go_wp2_with (fail);go_at_call 15;refine(qAz _ _).mono ?_;rintro e W3 ⟨rfl,rfl⟩;go_wp2_with (fail);go_at_call 33;refine ak.out.mono ?_;rintro e W4 ⟨s,⟨F,v4,N,rfl,d⟩| ⟨z,hz,rfl⟩⟩
  ·have p:F.length=n:=(qDF N).trans J.out;have t:=P.out;rw[N]at t;change qA7 l=if qAD F then .ok F else .error 10 at t;obtain⟨A4,c4,rfl⟩:=d.slice
   by_cases h0:n=0
   ·have ht:qAD F=true:=by unfold qAD;rw[p,h0];rfl
    rw[ht,if_pos rfl]at t;subst h0;have b:=d;rw[p]at b ⊢;have⟨m,ac,G,i,y,O⟩:=hyd6 s N d b t p;clear p t b d N s;go_wp2_with (fail);go_at_call 15;refine(qAz _ _).mono ?_;rintro e W3 ⟨rfl,rfl⟩;go_wp2;go_ret;exact⟨m.out,.inl ⟨F,_,y.out,rfl,i.out⟩⟩
   ·obtain⟨k,rfl⟩:∃k,n=k+1:=⟨n - 1,by omega⟩;have U:k<F.length:=by omega
    obtain⟨g,c',e3,aw,ax,-,-,cs,X,hc⟩:=d.at U;injection e3 with e3 e4 e5;subst e3 e5;clear e4;have C:F.getD (F.length - 1) 0=F[k]:=by rw[p,List.getD_eq_getElem?_getD,show k+1 - 1=k by omega,List.getElem?_eq_getElem U];rfl
    have B:qAD F= !decide (F[k]=0):=by unfold qAD;rw[C,p];simp
    generalize F[k]=x at X C B;obtain⟨s1,A1,n1,c1,B1,m1,d1,rfl,I⟩:=X;have q0:W4.cell? ⟨g,k*3,none⟩=some (.bool s1):=hc 0 _ rfl;have q1:W4.cell? ⟨g,k*3+1,none⟩=some (.slice A1 n1 c1):=hc 1 _ rfl;have q2:W4.cell? ⟨g,k*3+2,none⟩=some (.slice B1 m1 d1):=hc 2 _ rfl;have j:=qFk _ x _ W4 I;obtain⟨sg,D⟩:∃sg,rsgn x=sg:=⟨_,rfl⟩;have E:(sg=0)↔x=0:=by rw[<-D];unfold rsgn;simp
    rw[D]at j;have b:=d;rw[p]at b ⊢
    by_cases hx:x=0
    ·have M:sg=0:=E.2 hx;subst M;rw[B,decide_eq_true hx]at t;have⟨m,ac,G,i,y,O,q,Y⟩:=hyd8 s N d b t p j D;have⟨Z,aa,T,ab⟩:=hyd4 E B C I;clear I C B E D j p t b d N s;go_wp2_with (fail);go_at_call 25;refine q.out.mono ?_;rintro e W5 ⟨rfl,f⟩;have o:=m.out.trans f;have⟨Q,r⟩:=hyd2 f o;clear o f;go_wp2_with (fail);go_at_call 15;refine(qBL _ _).mono ?_;rintro e W3 ⟨rfl,rfl⟩;go_wp2_with (fail);exact⟨rfl,r.out,.inr ⟨10,y.out,rfl⟩⟩
    ·have M:¬sg=0:=λh=>hx (E.1 h);have ay:(sg==0)=false:=by simpa using M
     have az:(sg != 0)=true:=by simpa using M
     rw[B,decide_eq_false hx]at t;have⟨m,ac,G,i,y,O,q,Y⟩:=hyd8 s N d b t p j D;have⟨Z,aa,T,ab⟩:=hyd4 E B C I;clear I C B E D j p t b d N s;go_wp2_with (fail);go_at_call 25;refine q.out.mono ?_;rintro e W5 ⟨rfl,f⟩;have o:=m.out.trans f;have H:=i.out.le f;have⟨Q,r,L⟩:=hyd3 f o H;clear H o f;go_wp2_with (fail);go_at_call 15;refine(qAz _ _).mono ?_;rintro e W3 ⟨rfl,rfl⟩;go_wp2;go_ret;exact⟨r.out,.inl ⟨F,_,y.out,rfl,L.out⟩⟩
  ·have t:=P.out;rw[hz]at t;have⟨m,a1,y⟩:=hyd3 s hz t;clear t hz s;go_wp2_with (fail);exact⟨rfl,m.out,.inr ⟨z,y.out,rfl⟩⟩
end Go.Proofs.Ytcoajjdhkhgfdaa
