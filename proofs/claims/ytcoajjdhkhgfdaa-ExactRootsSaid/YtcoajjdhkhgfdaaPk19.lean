/- reference 1: big, Great, SameWhole, SameFrac. reference 1: both. reference 1: what is said of results; CheckFrac, FromInt, Ratio, Compare, Add, Mul, Div. What .. -/
import Derived.Test.YtcoajjdhkhgfdaaPk18
namespace Go.Proofs.Ytcoajjdhkhgfdaa
set_option maxRecDepth 100000
set_option maxHeartbeats 4000000
open Go.RowKit Go.Shelf
set_option linter.unusedVariables false
set_option linter.unusedSimpArgs false
def bigB (n m:Nat):Bool:=(decide (m<n)&&decide (n<=40))||decide (42<n)
theorem qHx (n m:Nat) (w:World) (hn:(n:Int)<=9223372036854775807) (hm:(m:Int)<=1000):
  Calls Try.prog 11 #[.int .i64 n,.int .i64 m] w λe w'=>e= .returned (.bool (bigB n m))/\w=w':=by
 unfold bigB
 by_cases g:m<n
 ·by_cases h:n<=40
  ·have b:(decide (m<n)&&decide (n<=40)||decide (42<n))=true:=by simp[g,h]
   rw[b];clear b;have d:(m:Int)<(n:Int):=by omega
   have i:(n:Int)<=40:=by omega
   go_enter Try.func11,Try.ntmps11;go_wp2;go_ret;exact⟨rfl,rfl⟩
  ·by_cases c:42<n
   ·have b:(decide (m<n)&&decide (n<=40)||decide (42<n))=true:=by simp[c]
    rw[b];clear b;have d:(m:Int)<(n:Int):=by omega
    have i:¬(n:Int)<=40:=by omega
    have f:42<(n:Int):=by omega
    go_enter Try.func11,Try.ntmps11;go_wp2;go_ret;exact⟨rfl,rfl⟩
   ·have b:(decide (m<n)&&decide (n<=40)||decide (42<n))=false:=by simp[h,c]
    rw[b];clear b;have d:(m:Int)<(n:Int):=by omega
    have i:¬(n:Int)<=40:=by omega
    have f:¬42<(n:Int):=by omega
    go_enter Try.func11,Try.ntmps11;go_wp2;go_ret;exact⟨rfl,rfl⟩
 ·by_cases c:42<n
  ·have b:(decide (m<n)&&decide (n<=40)||decide (42<n))=true:=by simp[c]
   rw[b];clear b;have d:¬(m:Int)<(n:Int):=by omega
   have f:42<(n:Int):=by omega
   go_enter Try.func11,Try.ntmps11;go_wp2;go_ret;exact⟨rfl,rfl⟩
  ·have b:(decide (m<n)&&decide (n<=40)||decide (42<n))=false:=by simp[g,c]
   rw[b];clear b;have d:¬(m:Int)<(n:Int):=by omega
   have f:¬42<(n:Int):=by omega
   go_enter Try.func11,Try.ntmps11;go_wp2;go_ret;exact⟨rfl,rfl⟩
def qAg (x:FracA) (m:Nat):Bool:=bigB x.gn.length m||bigB x.gd.length m
theorem ArrL.lenB {α:Type} {L:Nat->Prop} {f:α->Value} {w:World} {v:Value} {xs:List α} (h:ArrL L f w v xs):(xs.length:Int)<=9223372036854775807:=by
 obtain⟨A,c,g,d,b,-⟩:=h;unfold maxLen at b;omega
theorem qD0 (L:Nat->Prop) (x:FracA) (m:Nat) (v:Value) (w:World) (hm:(m:Int)<=1000) (h:IsFracA L w v x):
  Calls Try.prog 5 #[v,.int .i64 m] w λe w'=>e= .returned (.bool (qAg x m))/\Le w w':=by
 obtain⟨A,c,B,d,rfl,n,o⟩:=h;have E:=n.lenB;have F:=o.lenB;have q:=λW=>qHx x.gn.length m W E hm;have r:=λW=>qHx x.gd.length m W F hm;obtain⟨k,b⟩:∃k,bigB x.gn.length m=k:=⟨_,rfl⟩;obtain⟨l,f⟩:∃l,bigB x.gd.length m=l:=⟨_,rfl⟩;have p:qAg x m=(k||l):=by unfold qAg;rw[b,f]
 rw[b]at q;rw[f]at r;rw[p];have i:=qAA w (.cells #[.bool x.sn,.slice A x.gn.length c,.bool x.sd,.slice B x.gd.length d] 27);have⟨z,C,j,s,t,y,D,g⟩:=hyd8 n o q r b f p i;clear i p f b r q o n
 cases k
 ·go_enter Try.func5,Try.ntmps5;go_wp2_with (fail);go_at_call 11;refine(j.out _).mono ?_;rintro e w' ⟨rfl,rfl⟩;go_wp2_with (fail);go_at_call 11;refine(s.out _).mono ?_;rintro e w' ⟨rfl,rfl⟩;go_wp2;go_ret;exact⟨by simp,g.out⟩
 ·go_enter Try.func5,Try.ntmps5;go_wp2_with (fail);go_at_call 11;refine(j.out _).mono ?_;rintro e w' ⟨rfl,rfl⟩;go_wp2;go_ret;exact⟨by simp,g.out⟩
theorem qLg (w:World) (o0 o1 o2 o3:Obj):∃W0,(((w.alloc o0).alloc o1).alloc o2).alloc o3=W0/\W0.heap.size=w.heap.size+4/\Le w W0/\W0.heap[w.heap.size]? =some o0/\W0.heap[w.heap.size+1]? =some o1/\W0.heap[w.heap.size+1+1]? =some o2/\W0.heap[w.heap.size+1+1+1]? =some o3:=by
 obtain⟨c,d,f,b,g,h,i⟩:=qCa w o0 o1 o2;rw[d];refine⟨_,rfl,by rw[World.size_alloc];omega,b.trans (qAA _ _),?_,?_,?_,?_⟩
 ·exact((qAA c o3).block _ (by omega)).trans g
 ·exact((qAA c o3).block _ (by omega)).trans h
 ·exact((qAA c o3).block _ (by omega)).trans i
 ·have:w.heap.size+1+1+1=c.heap.size:=by omega
  rw[this];unfold World.alloc;exact Array.getElem?_push_size
def qHb (v:Value):Prop:=∃s A n c B m d,v= .agg #[.bool s,.slice A n c,.slice B m d]
theorem RatL.qform {L:Nat->Prop} {k:IntKind} {w:World} {v:Value} {r:Rat} (h:RatL L k w v r):qHb v:=by
 obtain⟨b,d,c,f,rfl,-,-⟩:=h.form;exact⟨_,_,_,_,_,_,_,rfl⟩
noncomputable def okAF (x:FracA):Bool:=x.rat?.isSome
def qLF (L:Nat->Prop) (x y:FracA) (w:World) (e:Ending) (w':World):Prop:=Le w w'/\∃vx vy,e= .returned (.tuple #[vx,vy,.bool (okAF x&&okAF y)])/\qHb vx/\qHb vy/\(∀r,x.rat?=some r->RatL L .i64 w' vx r)/\(∀r,y.rat?=some r->RatL L .i64 w' vy r)
theorem InPost.res {L:Nat->Prop} {x:FracA} {w:World} {e:Ending} {w':World} (h:InPost L x w e w'):Le w w'/\∃v,e= .returned (.tuple #[v,.bool (okAF x)])/\qHb v/\∀r,x.rat?=some r->RatL L .i64 w' v r:=by
 obtain⟨c,⟨r,d,v,rfl,f⟩| ⟨d,rfl⟩⟩:=h
 ·refine⟨c,v,by unfold okAF;rw[d];rfl,f.qform,λg b=>?_⟩;rw[d]at b;injection b with b;subst b;exact f
 ·exact⟨c,qCD,by unfold okAF;rw[d];rfl,⟨_,_,_,_,_,_,_,rfl⟩,λg b=>by rw[d]at b;cases b⟩
theorem RatL.box3 {L:Nat->Prop} {k:IntKind} {W:World} {v u0 u1 u2:Value} {b0:Bool} {A1 A2:Option Addr} {n1 c1 n2 c2 B:Nat} {r:Rat} {t:TypeId} (h:RatL L k W v r) (hk:W.heap[B]? =some (Obj.cells #[.bool b0,.slice A1 n1 c1,.slice A2 n2 c2] t)):
  RatL L k (((W.setCell ⟨B,0,none⟩ u0).setCell ⟨B,1,none⟩ u1).setCell ⟨B,2,none⟩ u2) v r:=by
 obtain⟨f,d,e,b,c⟩:=h;exact⟨f,d,e,b.box3 hk,c.box3 hk⟩
theorem qKJ (L L2:Nat->Prop) (x y:FracA) (va vb:Value) (w:World) (hL:Up w L) (h1:IsFracA L2 w va x) (h2:IsFracA L2 w vb y):
  Calls Try.prog 27 #[va,vb] w (qLF L x y w):=by
 have ad:=h1;have ay:=h2;obtain⟨A,c,B,d,rfl,p1,p2⟩:=h1;obtain⟨A2,c2,B2,d2,rfl,q1,q2⟩:=h2;obtain⟨W0,aB,b5,P,k0,k1,k2,k3⟩:=qLg w (.cells #[.bool x.sn,.slice A x.gn.length c,.bool x.sd,.slice B x.gd.length d] 27) (.cells #[.bool y.sn,.slice A2 y.gn.length c2,.bool y.sd,.slice B2 y.gd.length d2] 27) (.cells #[.bool false,.slice none 0 0,.slice none 0 0] 63) (.cells #[.bool false,.slice none 0 0,.slice none 0 0] 63);have r1:=qGp L L2 x _ W0 (hL.le P) (ad.le P);obtain⟨z0,z1,z2,z3⟩:=qAh k0;have⟨a9,bc,az,bB,bC,bD,bE,F⟩:=hyd8 hL ad ay p1 p2 q1 q2 P;have⟨b9,aJ,aK,aL,aN⟩:=hyd5 k0 k1 k2 k3 r1;clear r1 k3 k2 k1 k0 P q2 q1 p2 p1 ay ad hL;go_enter Try.func27,Try.ntmps27;go_wp2_with (fail);clear aB;go_at_call 44;refine aN.out.mono ?_;rintro e W1 E;obtain⟨j,v1,rfl,⟨g,h,k,i,m,s,o,rfl⟩,au⟩:=E.res;obtain⟨b1,Y⟩:∃b1,okAF x=b1:=⟨_,rfl⟩;rw[Y];clear z0 z1 z2 z3 E;obtain⟨W2,aC,G,kx⟩:=al1 W1 (.cells #[.bool g,.slice h k i,.slice m s o] 63);have f:=j.trans G;have ae:=(f.block _ (by omega)).trans aJ.out;have a0:=(f.block _ (by omega)).trans aK.out;have a2:=(f.block _ (by omega)).trans aL.out;have r2:=qGp L L2 y _ W2 (a9.out.le (F.out.trans f)) (az.out.le (F.out.trans f));obtain⟨y0,y1,y2,y3⟩:=qAh ae;have bb:=j.size;have⟨aE,av,R,b,a5,ao,be,a1⟩:=hyd8 j au Y G kx f ae a0
 have⟨a3,aO⟩:=hyd2 a2 r2;clear r2 a2 a0 ae f kx G Y au j;go_wp2_with (fail);clear aC;go_at_call 44;refine aO.out.mono ?_;rintro e W3 E;obtain⟨H,v2,rfl,⟨l,n,t,p,z,D,C,rfl⟩,aw⟩:=E.res;obtain⟨b2,Z⟩:∃b2,okAF y=b2:=⟨_,rfl⟩;rw[Z];clear y0 y1 y2 y3 E;obtain⟨W4,aD,I,ky⟩:=al1 W3 (.cells #[.bool l,.slice n t p,.slice z D C] 63);have q:=H.trans I;have af:=(q.block _ (by have:=b.out.size;omega)).trans a1.out;have ag:=(q.block _ (by have:=b.out.size;omega)).trans a3.out;have aj:=(q.block _ (gsl a5.out)).trans a5.out;obtain⟨x0,x1,x2,-⟩:=qAB aj;obtain⟨y0,y1,y2,-⟩:=qAB ky;obtain⟨z0,z1,z2,f0,f1,f2⟩:=qAB af;obtain⟨u0,u1,u2,g0,g1,g2⟩:=qAB ag;have Q:=F.out.trans (ao.out.trans q);have⟨aa,ax,an,ab,bA,ap,O,a4⟩:=hyd8 H aw Z I ky q af ag;have⟨bk,X⟩:=hyd2 aj Q;clear Q aj ag af q ky I Z aw H;go_wp2_with (fail);clear aD;have bF:=b.out.size;have s3:=aa.out.size;have m1:¬W3.heap.size=w.heap.size+1+1:=by omega
 have m2:¬W3.heap.size=w.heap.size+1+1+1:=by omega
 have m3:¬w.heap.size+1+1=W3.heap.size:=by omega
 have m4:¬w.heap.size+1+1+1=W3.heap.size:=by omega
 have m5:¬W1.heap.size=w.heap.size+1+1:=by omega
 have m6:¬W1.heap.size=w.heap.size+1+1+1:=by omega
 have m7:¬w.heap.size+1+1=W1.heap.size:=by omega
 have m8:¬w.heap.size+1+1+1=W1.heap.size:=by omega
 obtain⟨V,hV,S,ah,ai,T,U⟩:∃V,((((((W4.setCell ⟨w.heap.size+1+1,0,none⟩ (.bool g)).setCell ⟨w.heap.size+1+1,1,none⟩ (.slice h k i)).setCell ⟨w.heap.size+1+1,2,none⟩ (.slice m s o)).setCell ⟨w.heap.size+1+1+1,0,none⟩ (.bool l)).setCell ⟨w.heap.size+1+1+1,1,none⟩ (.slice n t p)).setCell ⟨w.heap.size+1+1+1,2,none⟩ (.slice z D C)).drew =V/\Le w V/\V.heap[w.heap.size+1+1]? =some (.cells #[.bool g,.slice h k i,.slice m s o] 63)/\V.heap[w.heap.size+1+1+1]? =some (.cells #[.bool l,.slice n t p,.slice z D C] 63)∧
   (∀r,x.rat?=some r->RatL L .i64 V (.agg #[.bool g,.slice h k i,.slice m s o]) r)/\(∀r,y.rat?=some r->RatL L .i64 V (.agg #[.bool l,.slice n t p,.slice z D C]) r):=by
  have j1:=qAR (u0:= .bool g) (u1:= .slice h k i) (u2:= .slice m s o) O.out;have j2:=(Below.heap_setCell ((W4.setCell ⟨w.heap.size+1+1,0,none⟩ (.bool g)).setCell ⟨w.heap.size+1+1,1,none⟩ (.slice h k i)) ⟨w.heap.size+1+1,2,none⟩ (.slice m s o) (w.heap.size+1+1+1) (show w.heap.size+1+1+1≠w.heap.size+1+1 by omega)).trans ((Below.heap_setCell (W4.setCell ⟨w.heap.size+1+1,0,none⟩ (.bool g)) ⟨w.heap.size+1+1,1,none⟩ (.slice h k i) (w.heap.size+1+1+1) (show w.heap.size+1+1+1≠w.heap.size+1+1 by omega)).trans ((Below.heap_setCell W4 ⟨w.heap.size+1+1,0,none⟩ (.bool g) (w.heap.size+1+1+1) (show w.heap.size+1+1+1≠w.heap.size+1+1 by omega)).trans a4.out));have aq:=qAb (u0:= .bool g) (u1:= .slice h k i) (u2:= .slice m s o) X.out (show w.heap.size<=w.heap.size+1+1 by omega);have aF:∀r,x.rat?=some r->RatL L .i64 _ (.agg #[.bool g,.slice h k i,.slice m s o]) r:=λr hr=>RatL.box3 (u0:= .bool g) (u1:= .slice h k i) (u2:= .slice m s o) ((av.out r hr).le (b.out.trans ap.out)) O.out;have aG:∀r,y.rat?=some r->RatL L .i64 _ (.agg #[.bool l,.slice n t p,.slice z D C]) r:=λr hr=>RatL.box3 (u0:= .bool g) (u1:= .slice h k i) (u2:= .slice m s o) ((ax.out r hr).le ab.out) O.out;generalize ((W4.setCell ⟨w.heap.size+1+1,0,none⟩ (.bool g)).setCell ⟨w.heap.size+1+1,1,none⟩ (.slice h k i)).setCell ⟨w.heap.size+1+1,2,none⟩ (.slice m s o)=V1 at*
  have j3:=qAR (u0:= .bool l) (u1:= .slice n t p) (u2:= .slice z D C) j2;have ar:=qAb (u0:= .bool l) (u1:= .slice n t p) (u2:= .slice z D C) aq (show w.heap.size<=w.heap.size+1+1+1 by omega);have j4:=(Below.heap_setCell ((V1.setCell ⟨w.heap.size+1+1+1,0,none⟩ (.bool l)).setCell ⟨w.heap.size+1+1+1,1,none⟩ (.slice n t p)) ⟨w.heap.size+1+1+1,2,none⟩ (.slice z D C) (w.heap.size+1+1) (show w.heap.size+1+1≠w.heap.size+1+1+1 by omega)).trans ((Below.heap_setCell (V1.setCell ⟨w.heap.size+1+1+1,0,none⟩ (.bool l)) ⟨w.heap.size+1+1+1,1,none⟩ (.slice n t p) (w.heap.size+1+1) (show w.heap.size+1+1≠w.heap.size+1+1+1 by omega)).trans ((Below.heap_setCell V1 ⟨w.heap.size+1+1+1,0,none⟩ (.bool l) (w.heap.size+1+1) (show w.heap.size+1+1≠w.heap.size+1+1+1 by omega)).trans j1));refine⟨_,rfl,ar.trans Le.drew,j4,j3,λr hr=>?_,λr hr=>?_⟩
  ·exact(RatL.box3 (u0:= .bool l) (u1:= .slice n t p) (u2:= .slice z D C) (aF r hr) j2).le Le.drew
  ·exact(RatL.box3 (u0:= .bool l) (u1:= .slice n t p) (u2:= .slice z D C) (aG r hr) j2).le Le.drew
 obtain⟨d0,d1,d2,-⟩:=qAB ah;obtain⟨d3,d4,d5,-⟩:=qAB ai;have⟨aA,J,bh,bi,M,N⟩:=hyd6 hV S ah ai T U;clear U T ai ah S hV
 cases b1
 all_goals
  go_region;rw[aA.out];clear x0 x1 x2 y0 y1 y2 z0 z1 z2 f0 f1 f2 u0 u1 u2 g0 g1 g2;go_wp2
 ·exact bodyPost_ret (v:= .tuple #[.agg #[.bool g,.slice h k i,.slice m s o],.agg #[.bool l,.slice n t p,.slice z D C],.bool false]) (by simp[results,Try.results27,go_sem,d0,d1,d2,d3,d4,d5]) rfl ⟨J.out,_,_,by rw[R.out,Bool.false_and],⟨_,_,_,_,_,_,_,rfl⟩,⟨_,_,_,_,_,_,_,rfl⟩,M.out,N.out⟩
 ·exact bodyPost_ret (v:= .tuple #[.agg #[.bool g,.slice h k i,.slice m s o],.agg #[.bool l,.slice n t p,.slice z D C],.bool b2]) (by simp[results,Try.results27,go_sem,d0,d1,d2,d3,d4,d5]) rfl ⟨J.out,_,_,by rw[R.out,an.out,Bool.true_and],⟨_,_,_,_,_,_,_,rfl⟩,⟨_,_,_,_,_,_,_,rfl⟩,M.out,N.out⟩
theorem qLG {x y:FracA} (h:(okAF x&&okAF y)=true):∃a b,x.rat?=some a/\y.rat?=some b:=by
 unfold okAF at h;simp only[Bool.and_eq_true,Option.isSome_iff_exists]at h;obtain⟨⟨a,c⟩,b,d⟩:=h;exact⟨a,b,c,d⟩
theorem FracA.sz {x:FracA} {r:Rat} (h:x.rat?=some r):Rsz r 40:=(FracA.val h).sz
theorem Rsz.up {r:Rat} {m n:Nat} (h:Rsz r m) (hmn:m<=n):Rsz r n:=⟨Nat.le_trans h.1 hmn,Nat.le_trans h.2 hmn⟩
theorem qLh {a:Rat} {n:Nat} (ha:Rsz a n):Rsz (-a) n:=by obtain⟨c,q2,b⟩:=qEF a;unfold Rsz;rw[q2,b];exact ha
def MPred.box (B:Nat) (o:Obj):MPred:=⟨λv w=>∃k,v= .pointer (some ⟨k,0,none⟩)/\B<=k/\w.heap[k]? =some o,λ_ _ _ hb ⟨k,e,h1,h2⟩=>⟨k,e,h1,(hb.block k (gsl h2)).trans h2⟩⟩
set_option maxRecDepth 10000
abbrev flt (c:Int):List PanicEntry:=[{v:= .iface 72 (.agg #[.int .i64 c]),recovered:=false}]
structure TwoG (i j:Nat) (D:Nat->Bool) (x:Nat->Value) (W:World):Prop where
 a:D i=true->∃k,x i= .pointer (some ⟨k,0,none⟩)/\k<W.heap.size
 b:D j=true->∃k,x j= .pointer (some ⟨k,0,none⟩)/\k<W.heap.size
 ne:D i=true->D j=true->x i≠x j
theorem TwoG.quiet {i j n:Nat} {D:Nat->Bool} {x:Nat->Value} {W W':World} {v:Value} (h:TwoG i j D x W) (hs:Le W W') (hi:n≠i) (hj:n≠j):TwoG i j (updB D n) (updV x n v) W':=by
 have c:∀q,q≠n->updB D n q=D q:=λq hq=>by simp[updB,hq]
 have d:∀q,q≠n->updV x n v q=x q:=λq hq=>by simp[updV,hq]
 refine⟨?_,?_,?_⟩
 ·rw[c i (Ne.symm hi),d i (Ne.symm hi)];exact λl=>by obtain⟨k,f,g⟩:=h.a l;exact⟨k,f,Nat.lt_of_lt_of_le g hs.size⟩
 ·rw[c j (Ne.symm hj),d j (Ne.symm hj)];exact λl=>by obtain⟨k,f,g⟩:=h.b l;exact⟨k,f,Nat.lt_of_lt_of_le g hs.size⟩
 ·rw[c i (Ne.symm hi),d i (Ne.symm hi),c j (Ne.symm hj),d j (Ne.symm hj)];exact h.ne
theorem TwoG.left {i j:Nat} {D:Nat->Bool} {x:Nat->Value} {W:World} {o:Obj} (h:TwoG i j D x W) (hij:i≠j):TwoG i j (updB D i) (updV x i (.pointer (some ⟨W.heap.size,0,none⟩))) (W.alloc o):=by
 have g:∀q,q≠i->updB D i q=D q:=λq hq=>by simp[updB,hq]
 have l:∀v q,q≠i->updV x i v q=x q:=λv q hq=>by simp[updV,hq]
 refine⟨λ_=>⟨W.heap.size,by simp[updV],by simp⟩,?_,λ_=>?_⟩
 ·rw[g j (Ne.symm hij),l _ j (Ne.symm hij)];exact λf=>by obtain⟨k,d,m⟩:=h.b f;exact⟨k,d,by rw[World.size_alloc];omega⟩
 ·rw[g j (Ne.symm hij),l _ j (Ne.symm hij)];intro f c;obtain⟨k,d,m⟩:=h.b f;rw[d]at c;simp only[updV,if_true]at c;injection c with c;injection c with c;injection c with c;omega
theorem TwoG.right {i j:Nat} {D:Nat->Bool} {x:Nat->Value} {W:World} {o:Obj} (h:TwoG i j D x W) (hij:i≠j):TwoG i j (updB D j) (updV x j (.pointer (some ⟨W.heap.size,0,none⟩))) (W.alloc o):=by
 have f:∀q,q≠j->updB D j q=D q:=λq hq=>by simp[updB,hq]
 have g:∀v q,q≠j->updV x j v q=x q:=λv q hq=>by simp[updV,hq]
 refine⟨?_,λ_=>⟨W.heap.size,by simp[updV],by simp⟩,?_⟩
 ·rw[f i hij,g _ i hij];exact λd=>by obtain⟨k,c,l⟩:=h.a d;exact⟨k,c,by rw[World.size_alloc];omega⟩
 ·rw[f i hij,g _ i hij];intro d _ b;obtain⟨k,c,l⟩:=h.a d;rw[c]at b;simp only[updV,if_true]at b;injection b with b;injection b with b;injection b with b;omega
theorem TwoG.start {i j:Nat} {D:Nat->Bool} {x:Nat->Value} {W:World} (hi:D i=false) (hj:D j=false):TwoG i j D x W:=
 ⟨λh=>absurd h (by rw[hi];simp),λh=>absurd h (by rw[hj];simp),λh=>absurd h (by rw[hi];simp)⟩
def MPred.ratO (x:FracA):MPred:=⟨λv w=>∃r,x.rat?=some r/\RatL (λ_=>True) .u32 w v r,λ_ _ _ hb ⟨r,e,h⟩=>⟨r,e,h.le hb⟩⟩
def FBox (W:World) (B:Nat) (v:Value) (x:FracA):Prop:=∃A c A' c',v= .agg #[.bool x.sn,.slice A x.gn.length c,.bool x.sd,.slice A' x.gd.length c']/\W.heap[B]? =some (.cells #[.bool x.sn,.slice A x.gn.length c,.bool x.sd,.slice A' x.gd.length c'] 27)/\IsFracA (λ_=>True) W v x
theorem FBox.le {W W':World} {B:Nat} {v:Value} {x:FracA} (h:FBox W B v x) (hb:Le W W'):FBox W' B v x:=by
 obtain⟨A,c,d,f,e,b,g⟩:=h;exact⟨A,c,d,f,e,(hb.block B (gsl b)).trans b,g.le hb⟩
theorem FBox.lt {W:World} {B:Nat} {v:Value} {x:FracA} (h:FBox W B v x):B<W.heap.size:=by
 obtain⟨A,c,d,f,e,b,g⟩:=h;exact(gsl b)
end Go.Proofs.Ytcoajjdhkhgfdaa
