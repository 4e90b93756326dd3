/- Texts, the reference: Said. -/
import Derived.Test.YtfmfefibadpobaaGreatDoorPk25
namespace Go.Proofs.YtfmfefibadpobaaGreatDoor
set_option maxRecDepth 100000
set_option maxHeartbeats 1000000
open Go.RowKit Go.Shelf
set_option linter.unusedVariables false
set_option linter.unusedSimpArgs false
theorem qBu (a b:List UInt8):(⟨a.toArray⟩:ByteArray)++⟨b.toArray⟩=⟨(a++b).toArray⟩:=by
 apply ByteArray.ext;simp
theorem qDY {n m:Nat} (h:(dg n).length <=m) (hm:1<=m):(txN n).length <=9*m:=by rw[qDG];exact qHD h hm
theorem qFl (r:Rat):qAH r=(if rneg r=true then[45]else[])++txN (rnum r)++(if r.den=1 then[]else 47::txN r.den):=by
 unfold qAH rneg rnum;simp only[decide_eq_true_eq,qDG]
theorem qCZ (L:Nat->Prop) (r:Rat) (v:Value) (w:World) (hL:Up w L) (h:RatL L .i64 w v r) (hs:Rsz r 1000):
  Calls Tryz.prog 16 #[v] w λe w'=>e= .returned (strV (qAH r))/\Le w w':=by
 obtain⟨A1,c1,A2,c2,rfl,hn,hd⟩:=h.form;obtain⟨D,O⟩:=hs;have t1:=qDY D (by decide);have t2:=qDY O (by decide);have b:=qFl r;obtain⟨S,P⟩:∃S,rneg r=S:=⟨_,rfl⟩;rw[P]at b ⊢;obtain⟨t,z⟩:∃T,txN (rnum r)=T:=⟨_,rfl⟩;obtain⟨y,G⟩:∃T,txN r.den=T:=⟨_,rfl⟩;rw[z]at t1 b;rw[G]at t2 b;have k:=qAA w (.cells #[.bool S,.slice A1 (dg (rnum r)).length c1,.slice A2 (dg r.den).length c2] 49);have q1:=qD8 _ (rnum r) _ ((hn.mono (λ_ _=>trivial)).le k) D;obtain⟨l1,H⟩:∃l1,(dg (rnum r)).length =l1:=⟨_,rfl⟩;obtain⟨l2,I⟩:∃l2,(dg r.den).length =l2:=⟨_,rfl⟩;rw[H]at hn q1 k ⊢;rw[I]at hd q1 k ⊢;rw[z]at q1;have⟨aj,a1,C,ay,Z,c,az,aw⟩:=hyd8 hL hn hd D O b P z;have⟨V,ax,q,al,ar⟩:=hyd5 G H I k q1;clear q1 k I H G z P b O D hd hn hL;go_enter Tryz.func16,Tryz.ntmps16;go_wp2_with (fail);go_at_call 38;refine ar.out.mono ?_;rintro e U ⟨rfl,d⟩;obtain⟨d,B⟩:=qAl d;obtain⟨k0,k1,k2,-⟩:=qAF B;have X:w.heap.size<U.heap.size:=(gsl B);have q2:=qCC L L r.den 1 (.slice A2 l2 c2) (.slice (some ⟨U.heap.size,0,none⟩) 1 1) (U.alloc (.cells #[.int .i64 1] 3)) (by rw[<-q.out];rw[<-q.out]at C;exact C.out.le (d.trans (qAA _ _))) (qAt (aj.out.le d) (by omega) qCX 3);obtain⟨F,s⟩:∃F,U.alloc (.cells #[.int .i64 1] 3)=F:=⟨_,rfl⟩
 have l:Le w F:=s▸d.trans (qAA _ _);have A:F.heap[w.heap.size]? =some (Obj.cells #[.bool S,.slice A1 l1 c1,.slice A2 l2 c2] 49):=by rw[<-s];exact((qAA U _).block _ X).trans B
 have q4:=λn=>qD8 (.slice A2 l2 c2) r.den (F.drewN n) (by rw[<-q.out];rw[<-q.out]at C;exact(C.out.mono (λ_ _=>trivial)).le (l.trans (Le.quiet n))) Z.out;rw[V.out]at q4;have g:ordI r.den 1=0↔r.den=1:=ordI_zero;obtain⟨o,Y⟩:∃o,ordI r.den 1=o:=⟨_,rfl⟩;rw[Y]at q2 g;have b:=c.out;clear c B X;have z1:¬9223372036854775807<1+t.length:=by omega
 have z2:¬9223372036854775807<1+y.length:=by omega
 have z3:¬9223372036854775807<t.length+(1+y.length):=by omega
 have z4:¬9223372036854775807<1+t.length+(1+y.length):=by omega
 unfold strV
 by_cases E:r.den=1
 ·have M:=g.2 E;subst M;rw[if_pos E,List.append_nil]at b;have⟨x,Q,N,ai,J,f,j,am⟩:=hyd8 q2 q4 g E d l A Y;have i:=hyd1 s;clear s Y A l d E g q4 q2
  cases S
  ·replace b:qAH r=t:=b;have c:=hyd1 b;clear b;go_wp2_with (fail);go_at_call 36;refine x.out.mono ?_;rintro e W3 ⟨rfl,n,rfl⟩;rw[i.out];obtain⟨m0,m1,m2,-⟩:=qAF j.out;go_wp2;go_ret;refine⟨?_,f.out.trans (Le.quiet n)⟩;rw[c.out];unfold strV;rfl
  ·replace b:qAH r=[45]++t:=b;have c:=hyd1 b;clear b;go_wp2_with (fail);go_at_call 36;refine x.out.mono ?_;rintro e W3 ⟨rfl,n,rfl⟩;rw[i.out];obtain⟨m0,m1,m2,-⟩:=qAF j.out;go_wp2;go_ret;refine⟨?_,f.out.trans (Le.quiet n)⟩;rw[c.out];unfold strV;rw[<-qBu];rfl
 ·have M:¬o=0:=λh=>E (g.1 h);have a2:(o==0)=false:=beq_eq_false_iff_ne.2 M;rw[if_neg E]at b;have⟨x,Q,N,ai,J,f,j,am⟩:=hyd8 q2 q4 g E d l A Y;have i:=hyd1 s;clear s Y A l d E g q4 q2
  cases S
  ·replace b:qAH r=t++47::y:=b;have c:=hyd1 b;clear b;go_wp2_with (fail);go_at_call 36;refine x.out.mono ?_;rintro e W3 ⟨rfl,n,rfl⟩;rw[i.out];have q5:=Q.out n;obtain⟨m0,m1,m2,-⟩:=qAF (show(F.drewN n).heap[w.heap.size]? =_ from j.out);have R:=hyd1 q5;clear q5;go_wp2_with (fail);go_at_call 38;refine R.out.mono ?_;rintro e W4 ⟨rfl,m⟩;have p:=hyd1 m;clear m;unfold strV;go_wp2;go_ret;refine⟨?_,(f.out.trans (Le.quiet n)).trans p.out⟩;rw[c.out];unfold strV;rw[show t++47::y=t++([47]++y)from rfl,<-qBu,<-qBu]
   rfl
  ·replace b:qAH r=[45]++t++47::y:=b;have c:=hyd1 b;clear b;go_wp2_with (fail);go_at_call 36;refine x.out.mono ?_;rintro e W3 ⟨rfl,n,rfl⟩;rw[i.out];have q5:=Q.out n;obtain⟨m0,m1,m2,-⟩:=qAF (show(F.drewN n).heap[w.heap.size]? =_ from j.out);have R:=hyd1 q5;clear q5;go_wp2_with (fail);go_at_call 38;refine R.out.mono ?_;rintro e W4 ⟨rfl,m⟩;have p:=hyd1 m;clear m;unfold strV;go_wp2;go_ret;refine⟨?_,(f.out.trans (Le.quiet n)).trans p.out⟩;rw[c.out];unfold strV;rw[show[45]++t++47::y=([45]++t)++([47]++y)from rfl,<-qBu,<-qBu,<-qBu]
   rfl
end Go.Proofs.YtfmfefibadpobaaGreatDoor
