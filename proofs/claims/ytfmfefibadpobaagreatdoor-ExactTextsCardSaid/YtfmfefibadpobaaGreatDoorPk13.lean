/- reference 1: numbers of 0 or more in groups: cut, order, group. reference 1: numbers of 0 or more in groups: sum, less. reference 1: numbers of 0 or more in .. -/
import Derived.Test.YtfmfefibadpobaaGreatDoorPk12
import Derived.IntWalk
namespace Go.Proofs.YtfmfefibadpobaaGreatDoor
set_option maxRecDepth 100000
set_option maxHeartbeats 4000000
open Go.RowKit Go.Shelf
set_option linter.unusedVariables false
set_option linter.unusedSimpArgs false
theorem qBL:qBV Tryz.prog 47 3 (.int .i64 0) 8:=⟨Tryz.underlying47,by kernel_rfl,rfl⟩
theorem qG5 (L:Nat->Prop) (l:List Nat) (A:Option Addr) (n c:Nat) (w:World) (hv:ArrL L (gv .i64) w (.slice A n c) l):
  Calls Tryz.prog 50 #[.slice A n c] w λe w'=>e= .returned (.slice A (qAG l).length c)/\w=w':=by
 obtain⟨A,c,hv,C,t,q,p⟩:=hv;injection hv with e1 e2 e3;subst e1 e2 e3;unfold maxLen at t;have⟨v,o⟩:=hyd2 q p;clear p q;go_enter Tryz.func50,Tryz.ntmps50;go_wp2
 go_loop [3] (λs=>∃m:Nat,m<=l.length/\s= .int .i64 m/\Hid (qAG (l.take m)=qAG l)) (λs=>(intOf s).toNat)
 case atStart=>exact⟨l.length,Nat.le_refl _,rfl,Lib.hid (by rw[List.take_length])⟩
 case round=>
  obtain⟨m,E,rfl,h⟩:=hrel
  by_cases j:m=0
  ·subst j;go_wp2;go_ret;rw[<-h.out];exact⟨by simp[qAG],rfl⟩
  ·obtain⟨k,rfl⟩:∃k,m=k+1:=⟨m - 1,by omega⟩;obtain⟨b,B,rfl,D,x,r⟩:=o.out (by omega);have f:=r k (by omega);unfold gv at f;clear r
   by_cases i:l[k]=0
   ·rw[i]at f;have d:Hid (qAG (l.take k)=qAG l):=Lib.hid (by rw[<-h.out,qCW (by omega) i]);have y:=hyd1 i;clear i;clear h j;go_wp2
    go_round
    case rel=>exact⟨k,by omega,by go_num,d⟩
    case measure=>simp[intOf]
   ·have z:((l[k]:Int)==0)=false:=by simp;omega
    have d:Hid (l.take (k+1)=qAG l):=Lib.hid (by rw[<-h.out,qCb (by omega) i]);generalize l[k]=g at*;clear h j;go_wp2;go_ret;rw[<-d.out];exact⟨by simp;omega,rfl⟩
theorem qCM (L:Nat->Prop) (l:List Nat) (v:Value) (w:World) (hv:ArrL L (gv .i64) w v l):
  Calls Tryz.prog 50 #[v] w λe w'=>∃v',e= .returned v'/\w=w'/\ArrL L (gv .i64) w v' (qAG l):=by
 obtain⟨A,c,rfl,r⟩:=hv;have hv:ArrL L (gv .i64) w (.slice A l.length c) l:=⟨A,c,rfl,r⟩;exact(qG5 L l A l.length c w hv).mono λe w' ⟨b,d⟩=>⟨_,b,d,hv.trim⟩
def ordI (a b:Nat):Int:=if a<b then -1 else if a=b then 0 else 1
theorem qD3 {a b:Nat}:0<=ordI a b↔b<=a:=by unfold ordI;by_cases h:a<b<;>by_cases c:a=b<;>simp[h,c]<;>omega
theorem ordI_zero {a b:Nat}:ordI a b=0↔a=b:=by unfold ordI;by_cases h:a<b<;>by_cases c:a=b<;>simp[h,c]<;>omega
theorem qCC (L L2:Nat->Prop) (a b:Nat) (va vb:Value) (w:World) (ha:NumL L .i64 w va a) (hb:NumL L2 .i64 w vb b):
  Calls Tryz.prog 36 #[va,vb] w λe w'=>e= .returned (.int .i64 (ordI a b))/\∃n,w'=w.drewN n:=by
 obtain⟨Aa,ca,rfl,a1,Y,Q,P⟩:=ha;obtain⟨Ab,cb,rfl,b1,b2,S,R⟩:=hb;unfold maxLen at Y b2;have V:=qAD;have⟨G,H,Z,ab,ae⟩:=hyd5 P R Q S V;clear V S Q R P
 by_cases p:(dg a).length =(dg b).length
 ·have O:(((dg a).length :Int) != ((dg b).length :Int))=false:=by simp[p]
  have F:¬((dg a).length :Int)≠((dg b).length :Int):=by simp[p]
  have c:=hyd1 p;clear p;go_enter Tryz.func36,Tryz.ntmps36;go_wp2;go_loopw [5] (λi wr=>∃(k:Nat) (j:Int),k<=(dg a).length /\j=(k:Int) - 1/\i= .int .i64 j/\Hid ((dg a).drop k=(dg b).drop k)/\Hid (∃n,wr=w.drewN n)) (λi _=>(intOf i+1).toNat)
  case atStart=>exact⟨(dg a).length,_,Nat.le_refl _,rfl,rfl,Lib.hid (by rw[List.drop_eq_nil_of_le (Nat.le_refl _),List.drop_eq_nil_of_le (by have:=c.out;omega)]),Lib.hid ⟨0,rfl⟩⟩
  case round=>
   obtain⟨k,j,hk,X,rfl,D,d⟩:=hrel;obtain⟨nd,d⟩:=d.out
   by_cases I:k=0
   ·obtain rfl:j= -1:=by omega
    have z:a=b:=by have h:=D.out;rw[I]at h;exact qEe h
    clear I X;have⟨f,A⟩:=hyd2 d z;clear z d;go_wp2;go_ret;exact⟨qBj (by have h:=A.out;subst h;simp[ordI]),nd,f.out⟩
   ·obtain⟨m,rfl⟩:∃m,k=m+1:=⟨k - 1,by omega⟩
    obtain rfl:j=(m:Int):=by omega
    clear X I;have y:m<(dg a).length :=by omega
    have t:m<(dg b).length :=by have:=c.out;omega
    obtain⟨ba,oa,rfl,-,af,B⟩:=G.out (by omega);obtain⟨bb,ob,rfl,-,ag,C⟩:=H.out (by omega);have r:wr.cell? ⟨ba,oa+m,none⟩=some (gv .i64 (dg a)[m]):=by rw[d];exact B m y
    have s:wr.cell? ⟨bb,ob+m,none⟩=some (gv .i64 (dg b)[m]):=by rw[d];exact C m t
    clear B C;unfold gv at r s;obtain⟨g,M⟩:∃g,(dg a)[m]=g:=⟨_,rfl⟩;obtain⟨h,N⟩:∃h,(dg b)[m]=h:=⟨_,rfl⟩;rw[M]at r;rw[N]at s;have i1:(0:Int)<=(m:Int):=by omega
    have i2:(m:Int)<((dg a).length :Int):=by omega
    have i3:(m:Int)<((dg b).length :Int):=by omega
    have⟨v,x,f⟩:=hyd3 M N d;clear d N M
    rcases Nat.lt_trichotomy g h with hgh|hgh|hgh
    ·have T:decide ((g:Int)<(h:Int))=true:=by simpa using hgh
     have U:decide (g<h)=true:=by simpa using hgh
     have l:a<b:=qCU c.out m y D.out (by rw[v.out,x.out];exact hgh);have q:=hyd1 l;clear l;go_wp2;go_quiet (fail);go_wp2;go_ret;exact⟨qBj (by unfold ordI;rw[if_pos q.out]),_,by rw[f.out];exact World.drewN_drewN _ _ _⟩
    ·subst hgh;have T:decide ((g:Int)<(g:Int))=false:=by simp
     have U:decide (g<g)=false:=by simp
     have J:=Lib.hid (qEd c.out m y D.out (by rw[v.out,x.out]));clear D;go_wp2;go_quiet (fail);have ah:=λn=>World.drewN_drewN wr n;go_wp2;go_quiet (fail);go_wp2;go_roundw
     case rel=>exact⟨m,_,by omega,rfl,rfl,J,Lib.hid ⟨_,by rw[f.out];exact World.drewN_drewN _ _ _⟩⟩
     case measure=>simp[intOf]
    ·have T:decide ((g:Int)<(h:Int))=false:=by simp;omega
     have U:decide (g<h)=false:=by simp;omega
     have c3:decide ((h:Int)<(g:Int))=true:=by simpa using hgh
     have c4:decide (h<g)=true:=by simpa using hgh
     have l:b<a:=qCU c.out.symm m t D.out.symm (by rw[v.out,x.out];exact hgh);have q:=hyd1 l;clear l;go_wp2;go_quiet (fail);go_wp2;go_quiet (fail);go_wp2;go_ret;exact⟨qBj (by have:=q.out;unfold ordI;rw[if_neg (by omega),if_neg (by omega)]),_,by rw[f.out,World.drewN_drewN];exact World.drewN_drewN _ _ _⟩
 ·have O:(((dg a).length :Int) != ((dg b).length :Int))=true:=by simp;omega
  have F:((dg a).length :Int)≠((dg b).length :Int):=by omega
  by_cases l:(dg a).length <(dg b).length
  ·have E:((dg a).length :Int)<((dg b).length :Int):=by omega
   have:=qB0 l;go_enter Tryz.func36,Tryz.ntmps36;have o:=hyd1 this;clear this;go_wp2;go_ret;exact⟨qBj (by unfold ordI;rw[if_pos o.out]),0,rfl⟩
  ·have E:¬((dg a).length :Int)<((dg b).length :Int):=by omega
   have:=qB0 (m:=b) (n:=a) (by omega);have o:=hyd1 this;clear this;go_enter Tryz.func36,Tryz.ntmps36;go_wp2;go_ret;exact⟨qBj (by have:=o.out;unfold ordI;rw[if_neg (by omega),if_neg (by omega)]),0,rfl⟩
theorem qBf (L:Nat->Prop) (l:List Nat) (i:Nat) (v:Value) (w:World) (hv:ArrL L (gv .i64) w v l) (hi:i<=1000000000):
  Calls Tryz.prog 75 #[v,.int .i64 i] w λe w'=>e= .returned (.int .i64 ((l.getD i 0:Nat):Int))/\w=w':=by
 obtain⟨A,c,rfl,p,m,j,d⟩:=hv;unfold maxLen at m
 by_cases h:i<l.length
 ·obtain⟨b,o,rfl,q,n,k⟩:=d (by omega);have f:=k i h;rw[qAR h];unfold gv at f;generalize l[i]=g at*;clear k d j;go_enter Tryz.func75,Tryz.ntmps75;go_wp2;go_ret;exact⟨rfl,rfl⟩
 ·rw[qCt (by omega)];clear d j;go_enter Tryz.func75,Tryz.ntmps75;go_wp2;go_ret;exact⟨rfl,rfl⟩
theorem Le.quiet {w:World} (n:Nat):Le w (w.drewN n):=qB7 (Below.refl _ _) n
theorem qF7 (L L2 L3:Nat->Prop) (a b:Nat) (va vb:Value) (w:World) (hL:Up w L) (ha:NumL L2 .i64 w va a) (hb:NumL L3 .i64 w vb b) (hlen:(dg a).length <(dg b).length) (hm:(dg b).length <=100000000):
  Calls Tryz.prog 48 #[va,vb] w λe w'=>∃v',e= .returned v'/\Le w w'/\NumL L .i64 w' v' (a+b):=by
 have H:=ha;have J:=hb;obtain⟨Aa,ca,rfl⟩:=ha.slice;obtain⟨Ab,cb,rfl⟩:=hb.slice;have hB:=qAD;have Z:(dg a).length <=(dg b).length :=by omega
 have B:((dg a).length <(dg b).length)∨¬((dg a).length <(dg b).length):=by omega
 clear B ha hb;have lx:=qAO b;have ly:=qAO a;have v:nv (dg b)+nv (dg a)=a+b:=by have h1:=qAT a;have h2:=qAT b;omega
 obtain⟨M,hM⟩:∃M,(dg b).length =M:=⟨_,rfl⟩;have S:((dg a).length :Int)<((dg b).length :Int)∨¬((dg a).length :Int)<((dg b).length :Int):=by omega
 clear S;have⟨Y,I,N,x,ad,ae,D,an⟩:=hyd8 hL H J hB lx ly v hM;clear hM v ly lx hB J H hL;go_enter Tryz.func48,Tryz.ntmps48;go_wp2;go_loopw [5,6,7] (λs cy i wr=>∃(k c:Nat) (d:List Nat),k<=(dg b).length /\i= .int .i64 k/\cy= .int .i64 c/\c<=1/\Hid (Adding (dg b) (dg a) k c d)/\Hid (Below w.heap.size w wr)/\Hid (wr.ownsRow w.heap.size 3 1 s d.length (d.map (gv .i64)))) (λ_ _ i _=>(dg b).length - (intOf i).toNat)
 case atStart=>exact⟨0,0,[],Nat.zero_le _,rfl,rfl,by omega,Lib.hid (Adding.start _ _),Lib.hid (Below.refl _ _),Lib.hid (World.ownsRow_nil _ _ _ _)⟩
 case round=>
  obtain⟨k,c,d,hk,rfl,rfl,ao,X,j,t⟩:=hrel;have hz:w.heap.size<=wr.heap.size:=j.out.size;have ax:d.length=k:=X.out.len
  by_cases av:k<(dg b).length
  ·obtain⟨g,Q⟩:∃g,(dg a).getD k 0=g:=⟨_,rfl⟩;obtain⟨h,R⟩:∃h,(dg b).getD k 0=h:=⟨_,rfl⟩;have aq:g<1000000000:=by rw[<-Q,<-x.out];exact qAn (qAO _) _
   have au:h<1000000000:=by rw[<-R,<-x.out];exact qAn (qAO _) _
   obtain⟨f,n⟩:=X.out.next ad.out ae.out (g+h+c) (by rw[<-Q,<-R];omega);rw[x.out]at f;obtain⟨q,hq⟩:∃q:Nat,(g+h+c) / 1000000000=q:=⟨_,rfl⟩;obtain⟨r,hr⟩:∃r:Nat,(g+h+c)%1000000000=r:=⟨_,rfl⟩;rw[hq,hr]at f;have aa:q<=1:=f.bound;have a0:r<1000000000:=by omega
   have o:d.length+1<=200000000:=by omega
   have eq:((g:Int)+h+c) / 1000000000=q:=by omega
   have er:((g:Int)+h+c)%1000000000=r:=by omega
   have l:=qBf L2 (dg a) k _ wr (ArrL.le I.out j.out) (by omega);have m:=qBf L3 (dg b) k _ wr (ArrL.le N.out j.out) (by omega);rw[Q]at l;rw[R]at m;have⟨ap,ar,p,G,C,ay,az,z⟩:=hyd8 Q R n f o hq hr l;have A:=hyd1 m;clear m l hr hq o f n R Q;go_wp2_with (fail);go_at_call 75;refine z.out.mono ?_;rintro e w' ⟨rfl,rfl⟩;go_wp2_with (fail);go_at_call 75;refine A.out.mono ?_;rintro e w' ⟨rfl,rfl⟩;go_wp2_with (at_builtin;go_must (refine qAV rfl (.tmp 27) (.tmp 30) 47 rfl w.heap.size 3 .i64 8 qBL (by decide) _ d rfl (t.out.alloc _) _ [r] rfl (qBP _ _ _ _) (by have:=C.out;simp;omega) (by simp;omega) ?_);intro v' w' F E U V);have y:Hid (Below w.heap.size w w'):=Lib.hid ((j.out.alloc (by omega) _).trans E);have⟨T,af,ag,ah⟩:=hyd4 F E U V;clear V U E F;go_wp2;go_roundw
   case rel=>exact⟨k+1,q,d++[r],by omega,by go_num,by go_num,aa,G,y,T⟩
   case measure=>simp[intOf];omega
  ·obtain⟨O,n⟩:=X.out.done (show(dg b).length <=k by omega) (by omega);have o:d.length+1<=200000000:=by omega
   have⟨P,p⟩:=hyd2 O n;clear n O;go_wp2_with (at_builtin;go_must (refine qAV rfl (.tmp 34) (.tmp 36) 47 rfl w.heap.size 3 .i64 8 qBL (by decide) _ d rfl (t.out.alloc _) _ [c] rfl (qBP _ _ _ _) (by simp;omega) (by simp;omega) ?_);intro v' w' F E U V);have y:Below w.heap.size w w':=(j.out.alloc (by omega) _).trans E;have hn:ArrL L (gv .i64) w' v' (d++[c]):=ArrL.of_own F Y.out;have⟨T,af,ag,ah⟩:=hyd4 F E U V;clear V U E F;go_wp2_with (first | (go_at_call 50;((with_reducible refine(qCM L _ _ _ hn).mono ?_);rintro e w' ⟨v2,rfl,rfl,ac⟩)));go_ret;exact⟨_,rfl,y,qAd ac p.out (P.out.trans D.out)⟩
theorem qF8 (L L2 L3:Nat->Prop) (a b:Nat) (va vb:Value) (w:World) (hL:Up w L) (ha:NumL L2 .i64 w va a) (hb:NumL L3 .i64 w vb b) (hlen:(dg a).length >=(dg b).length) (hm:(dg a).length <=100000000):
  Calls Tryz.prog 48 #[va,vb] w λe w'=>∃v',e= .returned v'/\Le w w'/\NumL L .i64 w' v' (a+b):=by
 have H:=ha;have J:=hb;obtain⟨Aa,ca,rfl⟩:=ha.slice;obtain⟨Ab,cb,rfl⟩:=hb.slice;have hB:=qAD;have Z:(dg b).length <=(dg a).length :=by omega
 have B:((dg a).length <(dg b).length)∨¬((dg a).length <(dg b).length):=by omega
 clear B ha hb;have lx:=qAO a;have ly:=qAO b;have v:nv (dg a)+nv (dg b)=a+b:=by have h1:=qAT a;have h2:=qAT b;omega
 obtain⟨M,hM⟩:∃M,(dg a).length =M:=⟨_,rfl⟩;have S:((dg a).length :Int)<((dg b).length :Int)∨¬((dg a).length :Int)<((dg b).length :Int):=by omega
 clear S;have⟨Y,I,N,x,ad,ae,D,an⟩:=hyd8 hL H J hB lx ly v hM;clear hM v ly lx hB J H hL;go_enter Tryz.func48,Tryz.ntmps48;go_wp2;go_loopw [5,6,7] (λs cy i wr=>∃(k c:Nat) (d:List Nat),k<=(dg a).length /\i= .int .i64 k/\cy= .int .i64 c/\c<=1/\Hid (Adding (dg a) (dg b) k c d)/\Hid (Below w.heap.size w wr)/\Hid (wr.ownsRow w.heap.size 3 1 s d.length (d.map (gv .i64)))) (λ_ _ i _=>(dg a).length - (intOf i).toNat)
 case atStart=>exact⟨0,0,[],Nat.zero_le _,rfl,rfl,by omega,Lib.hid (Adding.start _ _),Lib.hid (Below.refl _ _),Lib.hid (World.ownsRow_nil _ _ _ _)⟩
 case round=>
  obtain⟨k,c,d,hk,rfl,rfl,ao,X,j,t⟩:=hrel;have hz:w.heap.size<=wr.heap.size:=j.out.size;have ax:d.length=k:=X.out.len
  by_cases av:k<(dg a).length
  ·obtain⟨g,Q⟩:∃g,(dg a).getD k 0=g:=⟨_,rfl⟩;obtain⟨h,R⟩:∃h,(dg b).getD k 0=h:=⟨_,rfl⟩;have aq:g<1000000000:=by rw[<-Q,<-x.out];exact qAn (qAO _) _
   have au:h<1000000000:=by rw[<-R,<-x.out];exact qAn (qAO _) _
   obtain⟨f,n⟩:=X.out.next ad.out ae.out (g+h+c) (by rw[<-Q,<-R];omega);rw[x.out]at f;obtain⟨q,hq⟩:∃q:Nat,(g+h+c) / 1000000000=q:=⟨_,rfl⟩;obtain⟨r,hr⟩:∃r:Nat,(g+h+c)%1000000000=r:=⟨_,rfl⟩;rw[hq,hr]at f;have aa:q<=1:=f.bound;have a0:r<1000000000:=by omega
   have o:d.length+1<=200000000:=by omega
   have eq:((g:Int)+h+c) / 1000000000=q:=by omega
   have er:((g:Int)+h+c)%1000000000=r:=by omega
   have l:=qBf L2 (dg a) k _ wr (ArrL.le I.out j.out) (by omega);have m:=qBf L3 (dg b) k _ wr (ArrL.le N.out j.out) (by omega);rw[Q]at l;rw[R]at m;have⟨ap,ar,p,G,C,ay,az,z⟩:=hyd8 Q R n f o hq hr l;have A:=hyd1 m;clear m l hr hq o f n R Q;go_wp2_with (fail);go_at_call 75;refine z.out.mono ?_;rintro e w' ⟨rfl,rfl⟩;go_wp2_with (fail);go_at_call 75;refine A.out.mono ?_;rintro e w' ⟨rfl,rfl⟩;go_wp2_with (at_builtin;go_must (refine qAV rfl (.tmp 27) (.tmp 30) 47 rfl w.heap.size 3 .i64 8 qBL (by decide) _ d rfl (t.out.alloc _) _ [r] rfl (qBP _ _ _ _) (by have:=C.out;simp;omega) (by simp;omega) ?_);intro v' w' F E U V);have y:Hid (Below w.heap.size w w'):=Lib.hid ((j.out.alloc (by omega) _).trans E);have⟨T,af,ag,ah⟩:=hyd4 F E U V;clear V U E F;go_wp2;go_roundw
   case rel=>exact⟨k+1,q,d++[r],by omega,by go_num,by go_num,aa,G,y,T⟩
   case measure=>simp[intOf];omega
  ·obtain⟨O,n⟩:=X.out.done (show(dg a).length <=k by omega) (by omega);have o:d.length+1<=200000000:=by omega
   have⟨P,p⟩:=hyd2 O n;clear n O;go_wp2_with (at_builtin;go_must (refine qAV rfl (.tmp 34) (.tmp 36) 47 rfl w.heap.size 3 .i64 8 qBL (by decide) _ d rfl (t.out.alloc _) _ [c] rfl (qBP _ _ _ _) (by simp;omega) (by simp;omega) ?_);intro v' w' F E U V);have y:Below w.heap.size w w':=(j.out.alloc (by omega) _).trans E;have hn:ArrL L (gv .i64) w' v' (d++[c]):=ArrL.of_own F Y.out;have⟨T,af,ag,ah⟩:=hyd4 F E U V;clear V U E F;go_wp2_with (first | (go_at_call 50;((with_reducible refine(qCM L _ _ _ hn).mono ?_);rintro e w' ⟨v2,rfl,rfl,ac⟩)));go_ret;exact⟨_,rfl,y,qAd ac p.out (P.out.trans D.out)⟩
theorem qDe (L L2 L3:Nat->Prop) (a b:Nat) (va vb:Value) (w:World) (hL:Up w L) (ha:NumL L2 .i64 w va a) (hb:NumL L3 .i64 w vb b) (hma:(dg a).length <=100000000) (hmb:(dg b).length <=100000000):
  Calls Tryz.prog 48 #[va,vb] w λe w'=>∃v',e= .returned v'/\Le w w'/\NumL L .i64 w' v' (a+b):=by
 by_cases h:(dg a).length <(dg b).length
 ·exact qF7 L L2 L3 a b va vb w hL ha hb h hmb
 ·exact qF8 L L2 L3 a b va vb w hL ha hb (by omega) hma
theorem qEi (L L2 L3:Nat->Prop) (a b:Nat) (va vb:Value) (w:World) (hL:Up w L) (ha:NumL L2 .i64 w va a) (hb:NumL L3 .i64 w vb b) (hle:b<=a) (hm:(dg a).length <=100000000):
  Calls Tryz.prog 76 #[va,vb] w λe w'=>∃v',e= .returned v'/\Le w w'/\NumL L .i64 w' v' (a - b):=by
 have ab:=hb;obtain⟨Aa,ca,rfl,a1,a2,aN,a3⟩:=ha;obtain⟨Ab,cb,rfl⟩:=hb.slice;unfold maxLen at a2;have hB:=qAD;have av:(dg b).length <=(dg a).length :=qAK hle;have lx:=qAO a;have ly:=qAO b;clear hb;have⟨ar,ao,ac,aK,J,az,aj,ah⟩:=hyd8 hL a3 ab aN hB lx ly hle;clear hle ly lx hB aN ab a3 hL;go_enter Tryz.func76,Tryz.ntmps76;go_wp2;go_loopw [5,6,7] (λs br i wr=>∃(k c:Nat) (j:List Nat),k<=(dg a).length /\i= .int .i64 k/\br= .int .i64 c/\c<=1/\Hid (Lessing (dg a) (dg b) k c j)/\Hid (Below w.heap.size w wr)/\Hid (wr.ownsRow w.heap.size 3 1 s j.length (j.map (gv .i64)))) (λ_ _ i _=>(dg a).length - (intOf i).toNat)
 case atStart=>exact⟨0,0,[],Nat.zero_le _,rfl,rfl,by omega,Lib.hid (Lessing.start _ _),Lib.hid (Below.refl _ _),Lib.hid (World.ownsRow_nil _ _ _ _)⟩
 case round=>
  obtain⟨k,c,j,hk,rfl,rfl,aP,Y,y,q⟩:=hrel;have hz:w.heap.size<=wr.heap.size:=y.out.size;have aT:j.length=k:=Y.out.len
  by_cases ai:k<(dg a).length
  ·obtain⟨bx,ox,rfl,-,au,ae⟩:=ao.out (by omega);have C:=(y.out.cell (p:=⟨bx,ox+k,none⟩) au).trans (ae k ai);unfold gv at C;clear ae;obtain⟨g,hg⟩:∃g,(dg a)[k]=g:=⟨_,rfl⟩;have T:(dg a).getD k 0=g:=by rw[qAR ai,hg]
   have aR:g<1000000000:=by rw[<-hg,<-J.out];exact qAS _ _ _
   rw[hg]at C;obtain⟨h,E⟩:∃h,(dg b).getD k 0=h:=⟨_,rfl⟩;have aS:h<1000000000:=by rw[<-E,<-J.out];exact qAn (qAO _) _
   obtain⟨hn,hp⟩:=Y.out.next az.out aj.out ((g:Int) - h - c) (by rw[T,E];omega);have O:j.length+1<=200000000:=by omega
   have hf:∃(v:Bool) (A:Nat),decide ((g:Int) - h - c<0)=v/\(if v then(g:Int) - h - c+1000000000 else(g:Int) - h - c)=(A:Int)/\A<1000000000/\Hid (Lessing (dg a) (dg b) (k+1) (if v then 1 else 0) (j++[A])):=by
    by_cases d:(g:Int) - h - c<0
    ·obtain⟨A,e1,Z,e3⟩:=hn d;rw[J.out]at Z;exact⟨true,A,by simp[d],by simpa using e1,Z,Lib.hid e3⟩
    ·obtain⟨A,e1,Z,e3⟩:=hp d;rw[J.out]at Z;exact⟨false,A,by simp[d],by simpa using e1,Z,Lib.hid e3⟩
   obtain⟨v,A,t,D,aC,aa⟩:=hf
   have M:∀n,Calls Tryz.prog 75 #[.slice Ab (dg b).length cb,.int .i64 k] (wr.drewN n) λe w'=>e= .returned (.int .i64 (h:Int))/\wr.drewN n=w':=λn=>by
    have h1:=qBf L3 (dg b) k (.slice Ab (dg b).length cb) (wr.drewN n) (ArrL.le ac.out (y.out.trans (Le.quiet n |>.mono hz))) (by omega);rw[E]at h1;exact h1
   have i1:(0:Int)<=(k:Int):=by omega
   have i2:(k:Int)<((dg a).length :Int):=by omega
   have P:IntKind.i64.wrap ((g:Int) - h)=(g:Int) - h:=IntWalk.i64_in _ (by omega);have Q:IntKind.i64.wrap ((g:Int) - h - c)=(g:Int) - h - c:=IntWalk.i64_in _ (by omega);have⟨D,aD,G,aE,r⟩:=hyd5 hg T O E M;clear M E O T hg;clear hn hp;have ad:∀n,Below w.heap.size w (wr.drewN n):=λn=>y.out.trans (Le.quiet n |>.mono hz);have F:∀n,(wr.drewN n).ownsRow w.heap.size 3 1 _ j.length (j.map (gv .i64)):=λn=>qA0 q.out (Le.quiet n);have⟨B,l⟩:=hyd2 ad F;clear F ad
   cases v
   ·have d:¬((g:Int) - h - c<0):=of_decide_eq_false t;have f:(g:Int) - h - c=(A:Int):=by simpa using D
    clear t D;have⟨H,I,o,m⟩:=hyd4 P Q d f;clear f d Q P;go_wp2;have P:=H.out;have Q:=I.out;go_quiet (first | (go_at_call 75;exact qC4 (r.out _)));clear P Q H I;rename Nat=>nq
    have x:=Lib.hid (B.out nq);have z:=Lib.hid (l.out nq);have ay:w.heap.size<=(wr.drewN nq).heap.size :=x.out.size;clear r B l q y C;generalize wr.drewN nq=wq at*;have d:=o.out;have f:=m.out;clear o m;go_wp2_with (at_builtin;go_must (refine qAV rfl (.tmp 29) (.tmp 31) 47 rfl w.heap.size 3 .i64 8 qBL (by decide) _ j rfl (z.out.alloc _) _ [A] rfl (qBP _ _ _ _) (by have:=G.out;simp;omega) (by simp;omega) ?_);intro v' w' r1 X r3 r4);have R:Hid (Below w.heap.size w w'):=Lib.hid ((x.out.alloc (by omega) _).trans X);have⟨V,a0,a4,a5⟩:=hyd4 r1 X r3 r4;clear r4 r3 X r1;clear d f;go_wp2;go_roundw
    case rel=>exact⟨k+1,0,j++[A],by omega,by go_num,by go_num,by omega,aa,R,V⟩
    case measure=>simp[intOf];omega
   ·have d:(g:Int) - h - c<0:=of_decide_eq_true t;have f:(g:Int) - h - c+1000000000=(A:Int):=by simpa using D
    clear t D;have⟨H,I,o,m⟩:=hyd4 P Q d f;clear f d Q P;go_wp2;have P:=H.out;have Q:=I.out;go_quiet (first | (go_at_call 75;exact qC4 (r.out _)));clear P Q H I;rename Nat=>nq
    have x:=Lib.hid (B.out nq);have z:=Lib.hid (l.out nq);have ay:w.heap.size<=(wr.drewN nq).heap.size :=x.out.size;clear r B l q y C;generalize wr.drewN nq=wq at*;have d:=o.out;have f:=m.out;clear o m;go_wp2_with (at_builtin;go_must (refine qAV rfl (.tmp 29) (.tmp 31) 47 rfl w.heap.size 3 .i64 8 qBL (by decide) _ j rfl (z.out.alloc _) _ [A] rfl (qBP _ _ _ _) (by have:=G.out;simp;omega) (by simp;omega) ?_);intro v' w' r1 X r3 r4);have R:Hid (Below w.heap.size w w'):=Lib.hid ((x.out.alloc (by omega) _).trans X);have⟨V,a0,a4,a5⟩:=hyd4 r1 X r3 r4;clear r4 r3 X r1;clear d f;go_wp2;go_roundw
    case rel=>exact⟨k+1,1,j++[A],by omega,by go_num,by go_num,by omega,aa,R,V⟩
    case measure=>simp[intOf];omega
  ·obtain rfl:k=(dg a).length :=by omega
   have S:=Y.out.done aj.out (by rw[qAT,qAT];exact ah.out) av;have hn:ArrL L (gv .i64) wr _ j:=ArrL.of_own q.out ar.out;rw[qAT,qAT]at S;have N:=Y.out.low;have⟨af,U,aO,aw⟩:=hyd4 S N Y q;clear q Y N S;go_wp2_with (first | (go_at_call 50;((with_reducible refine(qCM L _ _ _ hn).mono ?_);rintro e w' ⟨v2,rfl,rfl,ax⟩)));go_ret;exact⟨_,rfl,y.out,qAd ax U.out af.out⟩
theorem qCN (L L2 L3:Nat->Prop) (a b:Nat) (va vb:Value) (w:World) (hL:Up w L) (ha:NumL L2 .i64 w va a) (hb:NumL L3 .i64 w vb b) (hma:(dg a).length <=100000000) (hmb:(dg b).length <=100000000):
  Calls Tryz.prog 49 #[va,vb] w λe w'=>∃v',e= .returned v'/\Le w w'/\NumL L .i64 w' v' (a*b):=by
 obtain⟨Aa,ca,rfl,a1,a2,aN,a3⟩:=ha;obtain⟨Ab,cb,rfl,b1,b2,bN,b3⟩:=hb;unfold maxLen at a2 b2;have hB:=qAD;have lx:=qAO a;have ly:=qAO b;have⟨aG,a9,aA,bm,bo,B,bA,aT⟩:=hyd8 hL a3 b3 aN bN hB lx ly;clear ly lx hB bN aN b3 a3 hL;go_enter Tryz.func49,Tryz.ntmps49;go_wp2_with (at_make;go_must (refine qBR (f:=gv .i64) _ rfl _ _ 47 rfl w.heap.size 3 0 8 qBL rfl (by decide) ((dg a).length +(dg b).length +1) (by go_num) (by go_num) (by omega) (Nat.le_refl _) _ rfl ?_);intro w1 r1 r2 r3);have⟨az,aU,bC⟩:=hyd3 r1 r2 r3;clear r3 r2 r1;obtain⟨N,hN⟩:∃N,(dg a).length +(dg b).length +1=N:=⟨_,rfl⟩;rw[hN]at az ⊢;have br:=hyd1 hN;have bs:(dg a).length +(dg b).length <N:=by omega
 clear hN;go_loopw [6] (λi wr=>∃(k:Nat) (t:List Nat),k<=(dg a).length /\i= .int .i64 k/\Hid (t.length=N)/\Hid (Mul (dg a) (dg b) k t)/\Hid (Below w.heap.size w wr)/\Hid (wr.ownsRow w.heap.size 3 1 (.slice (some ⟨w.heap.size,0,none⟩) N N) N (t.map (gv .i64)))) (λi _=>(dg a).length - (intOf i).toNat)
 case atStart=>exact⟨0,_,Nat.zero_le _,rfl,Lib.hid (by simp),Lib.hid (Mul.start _ _ _),aU,az⟩
 case round=>
  obtain⟨k,t,hk,rfl,aL,V,aj,v⟩:=hrel
  by_cases aq:k<(dg a).length
  ·obtain⟨bx,ox,rfl,-,aI,an⟩:=a9.out (by omega);have o:∀W,Below w.heap.size w W->W.cell? ⟨bx,ox+k,none⟩=some (.int .i64 ((dg a)[k]:Nat)):=λW h=>(h.cell (p:=⟨bx,ox+k,none⟩) aI).trans (an k aq);clear an;obtain⟨x,hx⟩:∃x,(dg a)[k]=x:=⟨_,rfl⟩;have aS:x<1000000000:=by rw[<-hx,<-B.out];exact qAS _ _ _
   rw[hx]at o;have⟨aR,O⟩:=hyd2 hx o;clear o hx;rename World=>w0
   go_wp2;go_loopw [7,8] (λcy i wr=>∃(s c:Nat) (g:List Nat),s<=(dg b).length /\i= .int .i64 s/\cy= .int .i64 c/\c<1000000000/\Hid (g.length=N)/\Hid (MulRow x (dg b) k s c t g)/\Hid (Below w.heap.size w wr)/\Hid (wr.ownsRow w.heap.size 3 1 (.slice (some ⟨w.heap.size,0,none⟩) N N) N (g.map (gv .i64)))) (λ_ i _=>(dg b).length - (intOf i).toNat)
   case atStart=>exact⟨0,0,t,Nat.zero_le _,rfl,rfl,by omega,aL,Lib.hid (MulRow.start _ _ _ _ V.out.low),aj,v⟩
   case round=>
    obtain⟨s,c,g,bw,rfl,rfl,hc,j,hR,l,d⟩:=hrel
    have M:w.heap.size<wr.heap.size:=by
     obtain⟨g9,c9,e9,-,h9,-,-⟩:=qB3 d.out (by omega);injection e9 with e9;injection e9 with e9;injection e9 with e9;omega
    by_cases T:s<(dg b).length
    ·obtain⟨aB,oy,rfl,-,aJ,ao⟩:=aA.out (by omega);have H:=(l.out.cell (p:=⟨aB,oy+s,none⟩) aJ).trans (ao s T);have am:=O.out wr l.out;unfold gv at H;clear ao;obtain⟨y,hy⟩:∃y,(dg b)[s]=y:=⟨_,rfl⟩;have b7:y<1000000000:=by rw[<-hy,<-B.out];exact qAS _ _ _
     rw[hy]at H;obtain⟨J,D⟩:∃J:Nat,k+s=J:=⟨_,rfl⟩;have E:(k:Int)+(s:Int)=(J:Int):=by omega
     have U:J<N:=by omega
     have C:J<g.length:=by rw[j.out];exact U
     obtain⟨z,hz⟩:∃z,g[J]=z:=⟨_,rfl⟩;have b9:z<1000000000:=by rw[<-hz,<-B.out];exact hR.out.low.get _ _
     have m:=qA8 d.out j.out (k:=J) (x:=z) (by rw[List.getElem?_eq_getElem C,hz]);unfold gv at m;have aa:=d.out.frozenAt J;obtain⟨F,hd⟩:=hR.out.next (by rw[B.out];exact aS) aT.out T (by rw[D];exact C) (x*y+z+c) (by simp only[hy,D,hz]);obtain⟨P,hP⟩:∃P:Nat,x*y=P:=⟨_,rfl⟩;have Y:(x:Int)*(y:Int)=(P:Int):=by rw[<-hP];simp
     have bu:P<=999999998000000001:=by rw[<-hP];exact Nat.mul_le_mul (show x<=999999999 by omega) (show y<=999999999 by omega)
     rw[hP,B.out,D]at F;obtain⟨q,hq⟩:∃q:Nat,(P+z+c) / 1000000000=q:=⟨_,rfl⟩;obtain⟨r,hr⟩:∃r:Nat,(P+z+c)%1000000000=r:=⟨_,rfl⟩;rw[hq,hr]at F;have aO:q<1000000000:=by rw[<-B.out];exact F.bound
     have b5:r<1000000000:=by omega
     have eq:((P:Int)+z+c) / 1000000000=q:=by omega
     have er:((P:Int)+z+c)%1000000000=r:=by omega
     have j0:IntKind.i64.wrap ((x:Int)*(y:Int))=(P:Int):=by rw[Y];exact IntWalk.i64_in _ (by omega)
     have j1:IntKind.i64.wrap ((P:Int)+z)=(P:Int)+z:=IntWalk.i64_in _ (by omega);have j2:IntKind.i64.wrap ((P:Int)+z+c)=(P:Int)+z+c:=IntWalk.i64_in _ (by omega);have j3:IntKind.i64.wrap ((k:Int)+(s:Int))=(J:Int):=by rw[E];exact IntWalk.i64_in _ (by omega)
     have i1:(0:Int)<=(J:Int):=by omega
     have i2:(J:Int)<(N:Int):=by omega
     have i3:(0:Int)<=(k:Int):=by omega
     have i4:(k:Int)<((dg a).length :Int):=by omega
     have i5:(0:Int)<=(s:Int):=by omega
     have i6:(s:Int)<((dg b).length :Int):=by omega
     have al:∀n,Below w.heap.size w (wr.drewN n):=λn=>l.out.trans (Le.quiet n |>.mono (Nat.le_of_lt M));have I:∀n,(wr.drewN n).ownsRow w.heap.size 3 1 _ N (g.map (gv .i64)):=λn=>qA0 d.out (Le.quiet n);have R:∀n,(wr.drewN n).cell? ⟨w.heap.size,J,none⟩=some (.int .i64 z)/\(wr.drewN n).frozen? ⟨w.heap.size,J,none⟩=false/\w.heap.size<(wr.drewN n).heap.size :=λn=>⟨m,aa,M⟩;have⟨b6,b8,bv,ah,bt,b0,b4,aF⟩:=hyd8 hy hz hd F hP hq hr D;have⟨bb,Q,A,G,av,aw,ax,ay⟩:=hyd8 Y al I R j0 j1 j2 j3;have⟨af,aC,aE⟩:=hyd3 E eq er;clear er eq E j3 j2 j1 j0 R I al Y D hr hq hP F hd hz hy;go_wp2;have j0:=av.out;have j1:=aw.out;have j2:=ax.out;have j3:=ay.out;go_quiet (fail);clear j0 j1 j2 j3 av aw ax ay;rename Nat=>nq
     have ak:=Lib.hid (Q.out nq);have ac:=Lib.hid (A.out nq);obtain⟨aK,bd,be⟩:=G.out nq;clear Q A G H am m aa M l d;generalize wr.drewN nq=wq at*;have E:=af.out;have eq:=aC.out;have er:=aE.out;go_wp2;go_roundw
     case rel=>exact⟨s+1,q,g.set J r,by omega,by go_num,by go_num,aO,Lib.hid (by rw[List.length_set];exact j.out),ah,Lib.hid (ak.out.setCell (p:=⟨w.heap.size,J,none⟩) (Nat.le_refl _) _),Lib.hid (qAv (f:=gv .i64) ac.out J r)⟩
     case measure=>simp[intOf];omega
    ·obtain rfl:s=(dg b).length :=by omega
     obtain⟨J,D⟩:∃J:Nat,k+(dg b).length =J:=⟨_,rfl⟩;have E:(k:Int)+((dg b).length :Int)=(J:Int):=by omega
     have U:J<N:=by omega
     have C:J<g.length:=by rw[j.out];exact U
     have ad:=MulRow.zero V.out x hR.out (by rw[D];exact C);have m:=qA8 d.out j.out (k:=J) (x:=0) (by rw[List.getElem?_eq_getElem C];simp only[D]at ad;rw[ad]);unfold gv at m;have aa:=d.out.frozenAt J;have X:=V.out.next aq (by rw[aR.out];exact hR.out) (by rw[D];exact C);rw[D]at X;clear ad;have⟨aF,ag⟩:=hyd2 D X;clear X D;go_wp2;go_roundw
     case rel=>exact⟨k+1,g.set J c,by omega,by go_num,Lib.hid (by rw[List.length_set];exact j.out),ag,Lib.hid (l.out.setCell (p:=⟨w.heap.size,J,none⟩) (Nat.le_refl _) _),Lib.hid (qAv (f:=gv .i64) d.out J c)⟩
     case measure=>simp[intOf];omega
  ·obtain rfl:k=(dg a).length :=by omega
   have Z:=V.out.done;rw[qAT,qAT]at Z;have hn:ArrL L (gv .i64) wr (.slice (some ⟨w.heap.size,0,none⟩) N N) t:=ArrL.of_own v.out aG.out;have S:=V.out.low;have⟨ap,ab,bq,aM⟩:=hyd4 Z S V v;clear v V S Z;go_wp2_with (first | (go_at_call 50;((with_reducible refine(qCM L _ _ _ hn).mono ?_);rintro e w' ⟨v2,rfl,rfl,aQ⟩)));go_ret;exact⟨_,rfl,aj.out,qAd aQ ab.out ap.out⟩
theorem qGx (m:Nat) (l:List Nat):nv (List.replicate m 0++l)=B9^m*nv l:=by
 rw[qAq,qDD,List.length_replicate,Nat.zero_add]
theorem qDf (m a:Nat) (h:a≠0):dg (a*B9^m)=List.replicate m 0++dg a:=by
 have d:Norm (List.replicate m 0++dg a):=by
  refine⟨(qAm m).append (qAO a),?_⟩;have b:=(qC7 a).2;have c:dg a≠[]:=λe=>h (dg_eq_nil.1 e);rw[List.getLast?_append]
  cases e:(dg a).getLast? with
  | none=>exact absurd (List.getLast?_eq_none_iff.1 e) c
  | some g=>rw[e]at b;simpa using b
 have e:=qCh d;rw[qGx,qAT,Nat.mul_comm]at e;exact e
theorem qBg (L L2:Nat->Prop) (a m:Nat) (va:Value) (w:World) (hL:Up w L) (ha:NumL L2 .i64 w va a) (hma:(dg a).length <=100000000) (hm:m<=100000000):
  Calls Tryz.prog 77 #[va,.int .i64 m] w λe w'=>∃v',e= .returned v'/\Le w w'/\NumL L .i64 w' v' (a*B9^m):=by
 have b:=ha;obtain⟨G,H,rfl⟩:=ha.slice
 by_cases d:a=0
 ·have k:(dg a).length =0:=by rw[d,qAI];rfl
  rw[k];have⟨l,C,g,B,c⟩:=hyd5 d k hL ha b;clear b ha hL k d;go_enter Tryz.func77,Tryz.ntmps77;go_wp2;go_ret;refine⟨_,rfl,Le.refl _,?_⟩;unfold NumL;rw[l.out,Nat.zero_mul,qAI];exact ArrL.nil _ _ _
 ·have h:0<(dg a).length :=dg_length_pos.2 d;have k:(((dg a).length :Int)==0)=false:=beq_eq_false_iff_ne.2 (by omega);have D:¬((dg a).length :Int)=0:=by omega
  have i:=qDf m a d;clear ha d;have⟨c,g,j,v⟩:=hyd4 b hL i h;clear h i hL b;go_enter Tryz.func77,Tryz.ntmps77;go_wp2_with (first | (at_make;go_must (refine qBR (f:=gv .i64) _ rfl _ _ 47 rfl w.heap.size 3 0 8 qBL rfl (by decide) m (by go_num) (by go_num) (by omega) (Nat.le_refl _) _ rfl ?_);intro I x p y;have n:=Lib.hid (c.out.arr.below p);have o:=Lib.hid x;have q:=Lib.hid p;have r:=Lib.hid y;clear x p y)| (at_builtin;go_must (refine qAV rfl (.tmp 9) (.tmp 10) 47 rfl w.heap.size 3 .i64 8 qBL (by decide) _ (List.replicate m 0) rfl (by rw[List.length_replicate];exact o.out) _ (dg a) rfl n.out (by simp;omega) (Nat.le_of_lt r.out) ?_);intro v' w' z A E F;have s:=Lib.hid z;have t:=Lib.hid A;clear z A E F));go_ret;refine⟨_,rfl,q.out.trans t.out,?_⟩;unfold NumL;rw[j.out];exact ArrL.of_own s.out g.out
open Classical in
noncomputable def qEA (k:IntKind) (w:World) (v:Value):Nat:=if h:∃n,NumL (λ_=>True) k w v n then h.choose else 0
theorem qBt {L:Nat->Prop} {k:IntKind} {w:World} {v:Value} {n:Nat} (h:NumL L k w v n):qEA k w v=n:=by
 have b:∃n,NumL (λ_=>True) k w v n:=⟨n,ArrL.mono h λ_ _=>trivial⟩;unfold qEA;rw[dif_pos b];exact b.choose_spec.unique h
theorem qAt {L:Nat->Prop} {k:IntKind} {V:World} {g:Nat} (hL:∀b,V.heap.size<=b->L b) (h0:0<g) (hB:g<B9) (t:TypeId):NumL L k (V.alloc (.cells #[.int k g] t)) (.slice (some ⟨V.heap.size,0,none⟩) 1 1) g:=by
 unfold NumL;rw[qCj hB (by omega)];refine⟨some ⟨V.heap.size,0,none⟩,1,rfl,Nat.le_refl _,by unfold maxLen;omega,nofun,λ_=>⟨V.heap.size,0,rfl,hL _ (Nat.le_refl _),by unfold World.alloc;show V.heap.size<(V.heap.push _).size;rw[Array.size_push];omega,λj d=>?_⟩⟩;have c:j=0:=by simpa using d
 subst c;exact cell_of_row _ _ _ #[.int k g] t (0,0) (by unfold World.alloc;exact Array.getElem?_push_size)
theorem NumL.top {L:Nat->Prop} {k:IntKind} {w:World} {A:Option Addr} {n c x:Nat} (h:NumL L k w (.slice A n c) x):n=(dg x).length /\∀i (hi:i<(dg x).length),∃b off,A=some ⟨b,off,none⟩/\w.cell? ⟨b,off+i,none⟩=some (gv k (dg x)[i]):=by
 obtain⟨l,m,j,o,p,q,d⟩:=h;injection j with e1 e2 e3;subst e1 e3;refine⟨e2,λi hi=>?_⟩;obtain⟨b,off,f,-,-,g⟩:=d (by omega);exact⟨b,off,f,g i hi⟩
theorem qGG {a b A C R N:Nat} (hb:0<b) (hab:b<=a) (hR:(dg a).length =R) (hN:(dg b).length =N) (h0:0<N) (hA:(dg a).getD (R - 1) 0=A) (hC:(dg b).getD (N - 1) 0=C) (hc:¬(A<=C/\N<R)):
  0<max (A / (C+1)) 1/\max (A / (C+1)) 1<B9/\b*B9^(R - N)*max (A / (C+1)) 1<=a:=by
 have f:(dg b).length <=(dg a).length :=qAK hab;subst hR hN;have c:(dg a)[(dg a).length - 1]'(by omega)=A:=by rw[<-hA,qAR (by omega)]
 have d:(dg b)[(dg b).length - 1]'(by omega)=C:=by rw[<-hC,qAR (by omega)]
 have h:=qGV hb hab (by omega) h0 (by rw[c,d];exact hc) _ rfl;rw[c,d]at h;exact h
theorem qGH {a b A A2 C R N:Nat} (hb:0<b) (hab:b<=a) (hR:(dg a).length =R) (hN:(dg b).length =N) (h0:0<N) (hA:(dg a).getD (R - 1) 0=A) (hA2:(dg a).getD (R - 2) 0=A2) (hC:(dg b).getD (N - 1) 0=C) (hc1:A<=C) (hc2:N<R):
  0<max ((A*B9+A2) / (C+1)) 1/\max ((A*B9+A2) / (C+1)) 1<B9/\b*B9^(R - N - 1)*max ((A*B9+A2) / (C+1)) 1<=a:=by
 subst hR hN;have d:(dg a)[(dg a).length - 1]'(by omega)=A:=by rw[<-hA,qAR (by omega)]
 have c:(dg a)[(dg a).length - 2]'(by omega)=A2:=by rw[<-hA2,qAR (by omega)]
 have f:(dg b)[(dg b).length - 1]'(by omega)=C:=by rw[<-hC,qAR (by omega)]
 have h:=qGW hb hab (by omega) h0 (by rw[d,f];exact hc1) hc2 _ rfl;rw[d,c,f]at h;exact h
theorem qCw (L:Nat->Prop) (a b:Nat) (va vb:Value) (w:World) (hL:Up w L) (ha:NumL L .i64 w va a) (hb:NumL L .i64 w vb b) (hma:(dg a).length <=10000000) (hmb:(dg b).length <=10000000) (hb0:b≠0):
  Calls Tryz.prog 51 #[va,vb] w λe w'=>∃v1 v2,e= .returned (.tuple #[v1,v2])/\Le w w'/\NumL L .i64 w' v1 (a / b)/\NumL L .i64 w' v2 (a%b):=by
 have bf:=hb;obtain⟨Ab,cb,rfl⟩:=hb.slice;clear hb;obtain⟨N,hN⟩:∃N,(dg b).length =N:=⟨_,rfl⟩;have bv:0<N:=by rw[<-hN];exact dg_length_pos.2 hb0
 obtain⟨n1,bG⟩:∃n1,N=n1+1:=⟨N - 1,by omega⟩;rw[hN]at bf hmb ⊢;have aN:(N:Int) - 1=(n1:Int):=by omega
 obtain⟨bt,bg⟩:∃bt,(dg b).getD n1 0=bt:=⟨_,rfl⟩;have cp:bt<1000000000:=by rw[<-bg,<-qAD];exact qAn (qAO _) _
 have bP:NumL L .i64 w (.slice none 0 0) 0:=by unfold NumL;rw[qAI];exact ArrL.nil _ _ _
 have⟨bY,ce,av,E,af,aU,aQ,bQ⟩:=hyd8 hL ha bf hN bG bg aN bP;clear bP aN bg bG hN bf ha hL;go_enter Tryz.func51,Tryz.ntmps51;go_wp2;go_loopw [0,6] (λs0 s6 wr=>∃q r:Nat,Hid (NumL L .i64 wr s0 r)/\Hid (NumL L .i64 wr s6 q)/\Hid (Parting a b q r)/\Hid (Le w wr)) (λs0 _ wr=>qEA .i64 wr s0)
 case atStart=>exact⟨0,a,ce,bQ,Lib.hid (Parting.start a b),Lib.hid (Le.refl _)⟩
 case round=>
  obtain⟨q,r,hr,hq,hP,P⟩:=hrel;obtain⟨Ar,cr,rfl⟩:=hr.out.slice;obtain⟨Aq,cq,rfl⟩:=hq.out.slice;have aA:r<=a:=by have h:=hP.out;unfold Parting at h;omega
  have a8:q<=a:=by
   have h:=hP.out;unfold Parting at h;have:=Nat.le_mul_of_pos_right q (Nat.pos_of_ne_zero hb0);omega
  have aB:(dg r).length <=10000000:=Nat.le_trans (qAK aA) hma;have aP:(dg q).length <=10000000:=Nat.le_trans (qAK a8) hma;obtain⟨ob,S⟩:∃ob,ordI r b=ob:=⟨_,rfl⟩;have ho:=qCC L L r b _ _ wr hr.out (av.out.le P.out);rw[S]at ho
  by_cases i:r<b
  ·have bI:¬(0<=ob):=by rw[<-S,qD3];omega
   obtain⟨bi,bj⟩:=hP.out.done i;have aj:NumL L .i64 wr (.slice Aq (dg q).length cq) (a / b):=by rw[<-bi];exact hq.out
   have ak:NumL L .i64 wr (.slice Ar (dg r).length cr) (a%b):=by rw[<-bj];exact hr.out
   have⟨ag,ah,aO,bH,cs,ct,bK,bJ⟩:=hyd8 aj ak ho S bi bj aA a8;have⟨bM,a9,bL⟩:=hyd3 aB aP i;clear i aP aB a8 aA bj bi S ho ak aj;go_wp2_with (fail);go_at_call 36;refine aO.out.mono ?_;rintro e w' ⟨rfl,nd,rfl⟩;go_wp2;go_ret2;exact⟨_,_,rfl,P.out.trans (Le.quiet nd),ag.out.le (Le.quiet nd),ah.out.le (Le.quiet nd)⟩
  ·have i:b<=r:=Nat.le_of_not_lt i;have bI:0<=ob:=by rw[<-S,qD3];exact i
   obtain⟨R,hR⟩:∃R,(dg r).length =R:=⟨_,rfl⟩;have cJ:N<=R:=by rw[<-hR,<-E.out];exact qAK i
   obtain⟨m1,bE⟩:∃m1,R=m1+1:=⟨R - 1,by omega⟩;have cM:(R:Int) - 1=(m1:Int):=by omega
   rw[hR]at hr aB ho ⊢;obtain⟨sh,bO⟩:∃sh,R=N+sh:=⟨R - N,by omega⟩;have cw:(R:Int) - (N:Int)=(sh:Int):=by omega
   obtain⟨top,I⟩:∃top,(dg r).getD m1 0=top:=⟨_,rfl⟩;have ch:top<1000000000:=by rw[<-I,<-qAD];exact qAn (qAO _) _
   obtain⟨-,p⟩:=hr.out.top;obtain⟨br,bR,rfl,b5⟩:=p m1 (by omega)
   have bh:2<=R->wr.cell? ⟨br,bR+(R - 2),none⟩=some (gv .i64 ((dg r).getD (R - 2) 0)):=λh2=>by
    obtain⟨b9,o9,e9,h9⟩:=p (R - 2) (by omega);injection e9 with e9;injection e9 with e91 e92;subst e91 e92;rw[qAR (by omega)];exact h9
   rw[<-qAR (by omega),I]at b5;unfold gv at b5 bh;obtain⟨-,aW⟩:=(av.out.le P.out).top;obtain⟨bb,cS,eb,b6⟩:=aW n1 (by have:=E.out;have:=af.out;omega);subst eb;rw[<-qAR (by have:=E.out;have:=af.out;omega),aU.out]at b6;unfold gv at b6;have ai:=qAD;have hg:∃(T s x:Nat),0<T/\T<1000000000/\b*B9^s*T<=r/\s<=10000000/\N+s<=R/\max x 1=T∧
    (
     (top<=bt/\0<sh/\(sh:Int) - 1=(s:Int)/\∃a2 m2 tp:Nat,(R:Int) - 2=(m2:Int)/\m2<R/\wr.cell? ⟨br,bR+m2,none⟩=some (.int .i64 (a2:Int))/\a2<1000000000/\(top:Int)*1000000000+a2=(tp:Int)/\(tp:Int)<=1000000000000000000/\(tp:Int) / ((bt:Int)+1)=(x:Int))
     ∨ (¬(top<=bt)/\(sh:Int)=(s:Int)/\(top:Int) / ((bt:Int)+1)=(x:Int))∨(top<=bt/\¬(0<sh)/\(sh:Int)=(s:Int)/\(top:Int) / ((bt:Int)+1)=(x:Int))):=by
    have hC:(dg b).getD (N - 1) 0=bt:=by rw[show N - 1=n1 by have:=af.out;omega];exact aU.out
    have hA:(dg r).getD (R - 1) 0=top:=by rw[show R - 1=m1 by omega];exact I
    by_cases hc:top<=bt/\0<sh
    ·obtain⟨a2,be⟩:∃a2,(dg r).getD (R - 2) 0=a2:=⟨_,rfl⟩;have b2:a2<1000000000:=by rw[<-be,<-qAD];exact qAn (qAO _) _
     obtain⟨h1,h2,h3⟩:=qGH (Nat.pos_of_ne_zero hb0) i hR E.out bv hA be hC hc.1 (by omega);rw[ai]at h1 h2 h3;refine⟨_,sh - 1,(top*1000000000+a2) / (bt+1),h1,h2,?_,by omega,by omega,rfl,.inl ⟨hc.1,hc.2,by omega,a2,R - 2,top*1000000000+a2,by omega,by omega,by rw[bh (by omega),be],b2,by simp,?_,by simp⟩⟩
     ·rw[show sh - 1=R - N - 1 by omega,ai];exact h3
     ·have:(top:Int)*1000000000<=999999999*1000000000:=by omega
      simp;omega
    ·obtain⟨h1,h2,h3⟩:=qGG (Nat.pos_of_ne_zero hb0) i hR E.out bv hA hC (by omega);rw[ai]at h2;refine⟨_,sh,top / (bt+1),h1,h2,?_,by omega,by omega,rfl,.inr ?_⟩
     ·rw[show sh=R - N by omega];exact h3
     ·by_cases h4:top<=bt
      ·exact .inr ⟨h4,by omega,rfl,by simp⟩
      ·exact .inl ⟨h4,rfl,by simp⟩
   obtain⟨T,s,x,an,bZ,ao,hs,cK,bF,bl⟩:=hg;have ac:T<B9:=by rw[ai];exact bZ
   have b3:b*B9^s≠0:=Nat.mul_ne_zero hb0 (by have:=Nat.pow_pos (n:=s) (show 0<B9 by omega);omega);have bk:(dg (b*B9^s)).length <=20000000:=by rw[qDf s b hb0];have:=E.out;simp;omega
   have b7:(dg T).length <=10:=by rw[qCj ac (by omega)];simp
   have aw:(dg (T*B9^s)).length <=20000000:=by rw[qDf s T (by omega),qCj ac (by omega)];simp;omega
   have a7:b*B9^s*T=b*(T*B9^s):=by simp only[Nat.mul_comm,Nat.mul_left_comm]
   have F:=hP.out.next (m:=T*B9^s) (by rw[<-a7];exact ao);rw[<-a7]at F
   have a3:r - b*B9^s*T<r:=by
    have:=Nat.mul_pos (Nat.pos_of_ne_zero b3) an;omega
   obtain⟨X,hX⟩:∃X,b*B9^s=X:=⟨_,rfl⟩;rw[hX]at F a3 ao bk;obtain⟨Y,hY⟩:∃Y,X*T=Y:=⟨_,rfl⟩;rw[hY]at F a3 ao;obtain⟨Z,hZ⟩:∃Z,T*B9^s=Z:=⟨_,rfl⟩;rw[hZ]at F aw;obtain⟨r2,ak⟩:∃r2,r - Y=r2:=⟨_,rfl⟩;rw[ak]at F a3;obtain⟨q2,aj⟩:∃q2,q+Z=q2:=⟨_,rfl⟩;rw[aj]at F;clear a7 b3;have bw:((dg r).length :Int)<=10000000:=by omega
   have a6:=qBt hr.out;have q1:n1<N:=by have:=af.out;omega
   have q2:m1<R:=by omega
   have bx:Up wr L:=bY.out.le P.out;have b4:=av.out.le P.out;clear bh p aW;have⟨bz,b0,b1,ah,ag,aO,bH,bL⟩:=hyd8 hX hY hZ ak aj ho S i;have⟨cL,cu,cv,cg,cn,o,aX,ad⟩:=hyd8 hR bE bO I ai ac bk b7;have⟨ax,aR,aT,aY,aS,ae,bK,bJ⟩:=hyd8 aw F ao a3 bw a6 aA a8;have⟨bM,a9,c,aV,aZ⟩:=hyd5 aB aP bx b4 bF;clear bF b4 bx aP aB a8 aA a6 bw a3 ao F aw b7 bk ac ai I bO bE hR i S ho aj ak hZ hY hX
   rcases bl with⟨w1,w2,w3,a2,m2,tp,w4,w5,hca2,w6,w7,w8,w9⟩| ⟨w1,w3,w9⟩| ⟨w1,w2,w3,w9⟩
   all_goals
    by_cases cO:x<1
    ·obtain rfl:0=x:=by omega
     obtain rfl:1=T:=by have:=aZ.out;omega
     have⟨bo,bp⟩:=hyd2 w3 w9;clear w9 w3;go_wp2_with (fail);go_at_call 36;refine aO.out.mono ?_;rintro e w' ⟨rfl,nd,rfl⟩;have w3:=bo.out;have w9:=bp.out;have aN:=aQ.out;go_wp2_with (fail);go_at_call 77;refine(qBg L L b s _ _ (c.out.le (Le.quiet nd)) (aV.out.le (Le.quiet nd)) (by have:=E.out;omega) (by omega)).mono ?_;rintro e wa ⟨v1,rfl,J,j⟩;rw[bz.out]at j;obtain⟨A1,c1,rfl⟩:=j.slice;have y:=(Le.quiet nd).trans J;have ap:=c.out.le (y.trans (qAA _ (.cells #[.int .i64 ((1:Nat):Int)] 3)));have aG:=j.le (qAA _ (.cells #[.int .i64 ((1:Nat):Int)] 3));have aI:=qAt (L:=L) (k:= .i64) (V:=wa) (g:=1) (c.out.le y) an o.out 3;have⟨b8,bN,ay,aq,aH,aJ⟩:=hyd6 J j y ap aG aI;clear aI aG ap y j J;go_wp2_with (fail);go_at_call 49;refine(qCN L L L X 1 _ _ _ aq.out aH.out aJ.out (by have:=aX.out;omega) (by have:=ad.out;omega)).mono ?_;rintro e wb ⟨v2,rfl,M,A⟩;rw[b0.out]at A;obtain⟨A2,c2,rfl⟩:=A.slice;have az:=(ay.out.trans (qAA _ (.cells #[.int .i64 ((1:Nat):Int)] 3))).trans M;have⟨bA,aC,d⟩:=hyd3 M A az;clear az A M;go_wp2_with (fail);go_at_call 76;refine(qEi L L L r Y _ _ _ (c.out.le d.out) (hr.out.le d.out) aC.out aT.out (by have:=aS.out;omega)).mono ?_;rintro e wc ⟨v3,rfl,O,B⟩;rw[ah.out]at B;obtain⟨A3,c3,rfl⟩:=B.slice;have z:=d.out.trans O;have ar:=c.out.le (z.trans (qAA _ (.cells #[.int .i64 ((1:Nat):Int)] 3)))
     have aK:=qAt (L:=L) (k:= .i64) (V:=wc) (g:=1) (c.out.le z) an o.out 3;have⟨bB,aD,a0,au,aL⟩:=hyd5 O B z ar aK;clear aK ar z B O;go_wp2_with (fail);go_at_call 77;refine(qBg L L 1 s _ _ au.out aL.out (by have:=ad.out;omega) (by omega)).mono ?_;rintro e wd ⟨v4,rfl,t,C⟩;rw[b1.out]at C;obtain⟨A4,c4,rfl⟩:=C.slice;have a1:=(a0.out.trans (qAA _ (.cells #[.int .i64 ((1:Nat):Int)] 3))).trans t;have H:=(aD.out.le (qAA _ (.cells #[.int .i64 ((1:Nat):Int)] 3))).le t;have⟨bC,aE,f,U⟩:=hyd4 t C a1 H;clear H a1 C t;go_wp2_with (fail);go_at_call 48;refine(qDe L L L q Z _ _ _ (c.out.le f.out) (hq.out.le f.out) aE.out (by have:=a9.out;omega) (by have:=ax.out;omega)).mono ?_;rintro e we ⟨v5,rfl,v,D⟩;rw[ag.out]at D;obtain⟨A5,c5,rfl⟩:=D.slice;have l:=U.out.le v;have G:=(P.out.trans f.out).trans v;have a4:=qBt l;have⟨bD,aF,aa,Q,a5⟩:=hyd5 v D l G a4;clear a4 G l D v;go_wp2;go_roundw
     case rel=>exact⟨_,_,aa,aF,aR,Q⟩
     case measure=>rw[a5.out,ae.out];exact aY.out
    ·have cP:1<=x:=by omega
     have cQ:¬(x:Int)<1:=by omega
     have cR:(1:Int)<=(x:Int):=by omega
     obtain rfl:x=T:=by have:=aZ.out;omega
     have⟨bo,bp⟩:=hyd2 w3 w9;clear w9 w3;go_wp2_with (fail);go_at_call 36;refine aO.out.mono ?_;rintro e w' ⟨rfl,nd,rfl⟩;have w3:=bo.out;have w9:=bp.out;have aN:=aQ.out;go_wp2_with (fail);go_at_call 77;refine(qBg L L b s _ _ (c.out.le (Le.quiet nd)) (aV.out.le (Le.quiet nd)) (by have:=E.out;omega) (by omega)).mono ?_;rintro e wa ⟨v1,rfl,J,j⟩;rw[bz.out]at j;obtain⟨A1,c1,rfl⟩:=j.slice;have y:=(Le.quiet nd).trans J;have ap:=c.out.le (y.trans (qAA _ (.cells #[.int .i64 ((x:Nat):Int)] 3)));have aG:=j.le (qAA _ (.cells #[.int .i64 ((x:Nat):Int)] 3));have aI:=qAt (L:=L) (k:= .i64) (V:=wa) (g:=x) (c.out.le y) an o.out 3;have⟨b8,bN,ay,aq,aH,aJ⟩:=hyd6 J j y ap aG aI;clear aI aG ap y j J;go_wp2_with (fail);go_at_call 49;refine(qCN L L L X x _ _ _ aq.out aH.out aJ.out (by have:=aX.out;omega) (by have:=ad.out;omega)).mono ?_;rintro e wb ⟨v2,rfl,M,A⟩;rw[b0.out]at A;obtain⟨A2,c2,rfl⟩:=A.slice;have az:=(ay.out.trans (qAA _ (.cells #[.int .i64 ((x:Nat):Int)] 3))).trans M;have⟨bA,aC,d⟩:=hyd3 M A az;clear az A M;go_wp2_with (fail);go_at_call 76;refine(qEi L L L r Y _ _ _ (c.out.le d.out) (hr.out.le d.out) aC.out aT.out (by have:=aS.out;omega)).mono ?_;rintro e wc ⟨v3,rfl,O,B⟩;rw[ah.out]at B;obtain⟨A3,c3,rfl⟩:=B.slice;have z:=d.out.trans O;have ar:=c.out.le (z.trans (qAA _ (.cells #[.int .i64 ((x:Nat):Int)] 3)))
     have aK:=qAt (L:=L) (k:= .i64) (V:=wc) (g:=x) (c.out.le z) an o.out 3;have⟨bB,aD,a0,au,aL⟩:=hyd5 O B z ar aK;clear aK ar z B O;go_wp2_with (fail);go_at_call 77;refine(qBg L L x s _ _ au.out aL.out (by have:=ad.out;omega) (by omega)).mono ?_;rintro e wd ⟨v4,rfl,t,C⟩;rw[b1.out]at C;obtain⟨A4,c4,rfl⟩:=C.slice;have a1:=(a0.out.trans (qAA _ (.cells #[.int .i64 ((x:Nat):Int)] 3))).trans t;have H:=(aD.out.le (qAA _ (.cells #[.int .i64 ((x:Nat):Int)] 3))).le t;have⟨bC,aE,f,U⟩:=hyd4 t C a1 H;clear H a1 C t;go_wp2_with (fail);go_at_call 48;refine(qDe L L L q Z _ _ _ (c.out.le f.out) (hq.out.le f.out) aE.out (by have:=a9.out;omega) (by have:=ax.out;omega)).mono ?_;rintro e we ⟨v5,rfl,v,D⟩;rw[ag.out]at D;obtain⟨A5,c5,rfl⟩:=D.slice;have l:=U.out.le v;have G:=(P.out.trans f.out).trans v;have a4:=qBt l;have⟨bD,aF,aa,Q,a5⟩:=hyd5 v D l G a4;clear a4 G l D v;go_wp2;go_roundw
     case rel=>exact⟨_,_,aa,aF,aR,Q⟩
     case measure=>rw[a5.out,ae.out];exact aY.out

theorem qD4 (L:Nat->Prop) (a b:Nat) (va vb:Value) (w:World) (hL:Up w L) (ha:NumL L .i64 w va a) (hb:NumL L .i64 w vb b) (hma:(dg a).length <=10000000) (hmb:(dg b).length <=10000000):
  Calls Tryz.prog 37 #[va,vb] w λe w'=>∃v',e= .returned v'/\Le w w'/\NumL L .i64 w' v' (Nat.gcd a b):=by
 have⟨B,C,D⟩:=hyd3 hL ha hb;clear hb ha hL;go_enter Tryz.func37,Tryz.ntmps37;go_wp2;go_loopw [0,1] (λT M wr=>∃x y:Nat,Hid (NumL L .i64 wr T x)/\Hid (NumL L .i64 wr M y)/\Hid (Nat.gcd x y=Nat.gcd a b)/\(dg x).length <=10000000/\(dg y).length <=10000000/\Hid (Le w wr)) (λ_ M wr=>qEA .i64 wr M)
 case atStart=>exact⟨a,b,C,D,Lib.hid rfl,hma,hmb,Lib.hid (Le.refl _)⟩
 case round=>
  obtain⟨x,y,I,A,N,S,J,i⟩:=hrel;obtain⟨P,Q,rfl⟩:=I.out.slice;obtain⟨V,Y,rfl⟩:=A.out.slice
  by_cases g:y=0
  ·have h:(dg y).length =0:=by rw[g,qAI];rfl
   have f:NumL L .i64 wr (.slice P (dg x).length Q) (Nat.gcd a b):=by rw[<-N.out,g,Nat.gcd_zero_right];exact I.out
   have F:¬(0<((dg y).length :Int)):=by omega
   have⟨R,l,O⟩:=hyd3 g f h;clear h f g;go_wp2;go_ret;exact⟨_,rfl,i.out,l.out⟩
  ·have h:0<(dg y).length :=dg_length_pos.2 g;have F:0<((dg y).length :Int):=by omega
   go_wp2_with (fail);go_at_call 51;refine(qCw L x y _ _ wr (B.out.le i.out) I.out A.out S J g).mono ?_;rintro e w' ⟨Z,v2,rfl,c,-,z⟩;obtain⟨U,X,rfl⟩:=z.slice;have k:x%y<y:=Nat.mod_lt _ (Nat.pos_of_ne_zero g);have p:=qBt A.out;have r:=qBt z;have t:=A.out.le c;have m:Nat.gcd y (x%y)=Nat.gcd a b:=by rw[qEz];exact N.out
   have G:(dg (x%y)).length <=10000000:=Nat.le_trans (qAK (Nat.le_of_lt k)) J;have d:=i.out.trans c;have⟨E,H,o,q,s,v,n,j⟩:=hyd8 c z k p r t m d;clear d m t r p k z c;go_wp2;go_roundw
   case rel=>exact⟨y,x%y,v,H,n,J,G,j⟩
   case measure=>rw[s.out,q.out];exact o.out
end Go.Proofs.YtfmfefibadpobaaGreatDoor
