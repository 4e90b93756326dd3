/- slices.Backward over groups: what the iterator yields, in the order from the top; the call that makes it. exact: numbers of 0 or more: compare (from the top), .. -/
import Derived.Test.YtfmfefibadpobaaGreatDoorPk08
namespace Go.Proofs.YtfmfefibadpobaaGreatDoor
set_option maxRecDepth 100000
set_option maxHeartbeats 2000000
open Go.RowKit Go.Shelf
set_option linter.unusedVariables false
set_option linter.unusedSimpArgs false
attribute [local go_sem] Oper.semAt_some
theorem qBp {N:Nat} {pre:List (Fin N)} {x:Fin N} (h:pre++[x]<+:List.finRange N):pre<+:List.finRange N/\x.1=pre.length:=by
 obtain⟨t,d⟩:=h;refine⟨⟨[x]++t,by rw[<-List.append_assoc];exact d⟩,?_⟩;have b:=congrArg (λl=>l[pre.length]?) d;simp only[List.append_assoc]at b;rw[List.getElem?_append_right (Nat.le_refl _),Nat.sub_self]at b;simp only[List.singleton_append,List.getElem?_cons_zero]at b;have f:=(List.getElem?_eq_some_iff.1 b.symm);obtain⟨g,c⟩:=f;rw[List.getElem_finRange]at c;have:=congrArg Fin.val c;simpa using this.symm
def qGv (q N:Nat) (W W':World):Prop:=(∀k,k<N->∃g:Nat,W.cell? ⟨q,k,none⟩=some (gv .u32 g))->∀k,k<N->∃g:Nat,W'.cell? ⟨q,k,none⟩=some (gv .u32 g)
def KeptR (q N n₀:Nat) (Bs:List Nat) (W W':World):Prop:=Kept n₀ Bs W W'/\qGv q N W W'
theorem KeptR.trans {q N n₀:Nat} {Bs:List Nat} {A B C:World} (h:KeptR q N n₀ Bs A B) (k:KeptR q N n₀ Bs B C):KeptR q N n₀ Bs A C:=⟨h.1.trans k.1,λr=>k.2 (h.2 r)⟩
theorem KeptR.refl (q N n₀:Nat) (Bs:List Nat) (W:World):KeptR q N n₀ Bs W W:=⟨Kept.refl _ _ _,λh=>h⟩
def qDN (xs:List Nat) (i:Fin xs.length):Array Value:=#[.int .i64 ((xs.length - 1 - i.1:Nat):Int),.int .u32 ((xs.getD (xs.length - 1 - i.1) 0:Nat):Int)]
theorem qB4 (xs:List Nat) (v:Value) (w0 w:World) (Bn n₀:Nat) (hv:Arr (gv .u32) w0 v xs) (hBn:Bn<w.heap.size) (hn₀:n₀<=w.heap.size) (h0:w0.heap.size<=n₀)
  (hb:Below w0.heap.size w0 w) (hc:w.cell? ⟨Bn,0,none⟩=some v):qHh Tryz.prog 78 #[.pointer (some ⟨Bn,0,none⟩)] xs.length (qDN xs) n₀ [Bn] w:=by
 intro l J Jx W O _ _ X C;have F:=(O.cell (p:=⟨Bn,0,none⟩) hBn).trans hc;have E:Below w0.heap.size w0 W:=hb.trans (O.mono (Nat.le_trans h0 hn₀));obtain⟨A,c,rfl,Z,G,_,S⟩:=qHi hv E;unfold maxLen at G;have L:=hyd1 S;clear S;refine callsIn_of_wp Tryz.func78 rfl trivial ?_ rfl;simp only[Tryz.ntmps78,List.size_toArray,List.length_cons,List.length_nil,Nat.reduceAdd,Nat.reduceSub,Array.replicate_succ,Array.replicate_zero,List.push_toArray,List.append_toArray,List.nil_append,List.cons_append];gi_wp2;gi_loopw [3] (λi wr=>∃k:Nat,k<=xs.length/\i= .int .i64 ((xs.length:Int) - 1 - k)/\J ((List.finRange xs.length).take k) wr/\Kept n₀ [Bn] W wr)
  (λi _=>(intOf i+1).toNat)
 case atStart=>exact⟨0,Nat.zero_le _,by go_num,C,Kept.refl _ _ _⟩
 case round=>
  obtain⟨k,hk,rfl,h,f⟩:=hrel
  by_cases d:k<xs.length
  ·obtain⟨m,Q⟩:∃m:Nat,xs.length=k+m+1:=⟨xs.length - k - 1,by omega⟩;have b:(xs.length:Int) - 1 - (k:Int)=(m:Int):=by omega
   rw[b];obtain⟨t,g,rfl,Y,n⟩:=L.out (by omega);have o:wr.cell? ⟨t,g+m,none⟩=some (gv .u32 xs[m]):=(f.1.cell (p:=⟨t,g+m,none⟩) (by show t<n₀;omega)).trans (n m (by omega));have q:=(f.cell (B:=Bn) (i:=0) (by simp)).trans F;obtain⟨fn,T,s,N,M,V⟩:=X _ ⟨k,d⟩ wr h (by simp;omega);dsimp only[qDN]at M;have y:xs.length - 1 - k=m:=by omega
   have z:xs.getD m 0=xs[m]:=qAR (by omega);rw[y,z]at M;have P:wr.cell? ⟨Bn,0,none⟩=some (.slice (some ⟨t,g,none⟩) xs.length c):=q;unfold gv at o;have I:m<xs.length:=by omega
   have R:=I;generalize xs[m]=x at o M z;clear n q;clear z;have⟨r,aa,U⟩:=hyd3 b Q y;clear y Q b;gi_wp2;refine V.mono ?_;rintro e W3 (⟨rfl,D,H⟩| ⟨rfl,j⟩)
   ·gi_wp2;go_roundw
    case rel=>exact⟨k+1,by omega,by have:=r.out;go_num,by rw[qBT k d];exact D,f.trans H⟩
    case measure=>simp[intOf]
   ·gi_wp2;refine bodyPost_ret (results_none rfl _ _ _) rfl ?_;exact⟨⟨_,rfl⟩,.inr ⟨_,⟨_,by rw[<-qBT k d];exact List.take_append_drop _ _⟩,j⟩⟩
  ·obtain rfl:k=xs.length:=by omega
   have b:(xs.length:Int) - 1 - (xs.length:Int)= -1:=by omega
   rw[b];gi_wp2;go_end0;exact⟨⟨_,rfl⟩,.inl ⟨_,List.take_of_length_le (by simp),h⟩⟩
def qFL (N:Nat) (x:Fin N×Nat):Array Value:=#[.int .i64 ((N - 1 - x.1.1:Nat):Int),.int .u32 (x.2:Int)]
theorem qEt (N q c:Nat) (w:World) (Bn n₀:Nat) (hN:N<=1000000000) (hBn:Bn<w.heap.size) (hn₀:n₀<=w.heap.size) (hq:q<w.heap.size) (hr:∀k,k<N->∃g:Nat,w.cell? ⟨q,k,none⟩=some (gv .u32 g))
  (hc:w.cell? ⟨Bn,0,none⟩=some (.slice (some ⟨q,0,none⟩) N c)):
  SeqStopsK Fence.wide 4 Tryz.prog 78 #[.pointer (some ⟨Bn,0,none⟩)] (qFL N) (KeptR q N n₀ [Bn]) (λys=>ys.map (·.1)=List.finRange N) (λpre=>pre.map (·.1)<+:List.finRange N) N w:=by
 intro l J Z W I _ _ S z;have C:=(I.cell (p:=⟨Bn,0,none⟩) hBn).trans hc
 have t:∀k,k<N->∃g:Nat,W.cell? ⟨q,k,none⟩=some (gv .u32 g):=λk E=>by
  obtain⟨g,U⟩:=hr k E;exact⟨g,(I.cell (p:=⟨q,k,none⟩) hq).trans U⟩
 have G:=hyd1 t;clear hr t;refine callsIn_of_wp Tryz.func78 rfl trivial ?_ rfl;simp only[Tryz.ntmps78,List.size_toArray,List.length_cons,List.length_nil,Nat.reduceAdd,Nat.reduceSub,Array.replicate_succ,Array.replicate_zero,List.push_toArray,List.append_toArray,List.nil_append,List.cons_append];gi_wp2;gi_loopw [3] (λi wr=>∃(k:Nat) (ys:List (Fin N×Nat)),k<=N/\i= .int .i64 ((N:Int) - 1 - k)/\ys.map (·.1)=(List.finRange N).take k/\J ys wr/\KeptR q N n₀ [Bn] W wr)
  (λi _=>(intOf i+1).toNat)
 case atStart=>exact⟨0,[],Nat.zero_le _,by go_num,rfl,z,KeptR.refl _ _ _ _ _⟩
 case round=>
  obtain⟨k,ys,E,rfl,d,o,n⟩:=hrel
  by_cases j:k<N
  ·obtain⟨m,L⟩:∃m:Nat,N=k+m+1:=⟨N - k - 1,by omega⟩;have b:(N:Int) - 1 - (k:Int)=(m:Int):=by omega
   rw[b];obtain⟨x,D⟩:=n.2 G.out m (by omega);have T:=(n.1.cell (B:=Bn) (i:=0) (by simp)).trans C;have Y:ys.length=k:=by have:=congrArg List.length d;simpa[Nat.min_eq_left E]using this
   obtain⟨fn,P,v,H,M,R⟩:=S _ (⟨k,j⟩,x) wr o (by omega);dsimp only[qFL]at M;have y:N - 1 - k=m:=by omega
   rw[y]at M;unfold gv at D;have X:m<N:=by omega
   have h:(ys++[((⟨k,j⟩:Fin N),x)]).map (·.1)=(List.finRange N).take (k+1):=by rw[List.map_append,d,qBT k j];rfl
   have⟨s,V,Q,O,f⟩:=hyd5 b L y d h;clear h d y L b;gi_wp2;refine R.mono ?_;rintro e W3 (⟨rfl,A,F⟩| ⟨rfl,r⟩)
   ·gi_wp2;go_roundw
    case rel=>exact⟨k+1,_,by omega,by have:=s.out;go_num,f.out,A,n.trans F⟩
    case measure=>simp[intOf]
   ·gi_wp2;refine bodyPost_ret (results_none rfl _ _ _) rfl ?_;exact⟨⟨_,rfl⟩,.inr ⟨_,⟨_,by rw[f.out];exact List.take_append_drop _ _⟩,r⟩⟩
  ·obtain rfl:k=N:=by omega
   have b:(k:Int) - 1 - (k:Int)= -1:=by omega
   rw[b];gi_wp2;go_end0;exact⟨⟨_,rfl⟩,.inl ⟨_,by rw[d];exact List.take_of_length_le (by simp),o⟩⟩
theorem qBq (A:Option Addr) (n c:Nat) (w:World):
  Calls Tryz.prog 53 #[.slice A n c] w λe w'=>e= .returned (.func (.func 78) #[] #[.pointer (some ⟨w.heap.size,0,none⟩)])/\w.alloc (.cells #[.slice A n c] 42)=w':=by
 have b:∀(fn:Fn) (first cap:Array Value) (w:World),(Instr.makeFunc fn first cap).run Tryz.prog w= .ok (.func fn first cap) w:=λ_ _ _ _=>rfl;go_enter Tryz.func53,Tryz.ntmps53;go_wp2;go_ret;exact⟨rfl,rfl⟩
end Go.Proofs.YtfmfefibadpobaaGreatDoor
namespace Go.Proofs.YtfmfefibadpobaaGreatDoor
set_option maxRecDepth 100000
set_option maxHeartbeats 2000000
open Go.RowKit Go.Shelf
set_option linter.unusedVariables false
set_option linter.unusedSimpArgs false
attribute [local go_sem] Oper.semAt_some
theorem qAB {W:World} {B:Nat} {v:Value} {t:TypeId} (h:W.heap[B]? =some (.cells #[v] t)):W.cell? ⟨B,0,none⟩=some v:=cell_of_row W B 0 _ _ _ h
theorem fz0 {W:World} {B:Nat} {cs:Array Value} {t:TypeId} (h:W.heap[B]? =some (.cells cs t)) (i:Nat):W.frozen? ⟨B,i,none⟩=false:=by simp[World.frozen?,h]
theorem frz2 {W:World} {B:Nat} {cs:Array Value} {t:TypeId} (h:W.heap[B]? =some (.cells cs t)):W.frozen? ⟨B,0,none⟩=false/\W.frozen? ⟨B,1,none⟩=false:=⟨fz0 h 0,fz0 h 1⟩
theorem frz4 {W:World} {B:Nat} {cs:Array Value} {t:TypeId} (h:W.heap[B]? =some (.cells cs t)):W.frozen? ⟨B,0,none⟩=false/\W.frozen? ⟨B,1,none⟩=false/\W.frozen? ⟨B,2,none⟩=false/\W.frozen? ⟨B,3,none⟩=false:=⟨fz0 h 0,fz0 h 1,fz0 h 2,fz0 h 3⟩
theorem qCu (w:World) (o0 o1 o2:Obj):∃W0,((w.alloc o0).alloc o1).alloc o2=W0/\W0.heap.size=w.heap.size+3/\Below w.heap.size w W0∧
  W0.heap[w.heap.size]? =some o0/\W0.heap[w.heap.size+1]? =some o1/\W0.heap[w.heap.size+2]? =some o2:=by
 refine⟨_,rfl,by simp,alc3 _ _ _ _,?_,?_,?_⟩
 ·exact(Below.heap_alloc _ _ _ (by simp<;>omega)).trans ((Below.heap_alloc _ _ _ (by simp)).trans (heap_alloc_new _ _))
 ·exact(Below.heap_alloc _ _ _ (by simp)).trans (by have h:=heap_alloc_new (w.alloc o0) o1;rw[World.size_alloc]at h;exact h)
 ·have h:=heap_alloc_new ((w.alloc o0).alloc o1) o2;rw[World.size_alloc,World.size_alloc]at h;exact h
theorem qAX {W:World} {B:Nat} {v u:Value} {t:TypeId} (h:W.heap[B]? =some (.cells #[v] t)):(W.setCell ⟨B,0,none⟩ u).heap[B]? =some (.cells #[u] t):=by
 simp only[World.setCell,Array.getElem?_modify,h];simp
theorem qBe (N:Nat):List.finRange N<+:List.finRange N:=List.prefix_rfl
def CmpI (W0:World) (a b:Nat) (pre:List (Fin (dg a).length)) (W:World):Prop:=
 Below W0.heap.size W0 W/\(pre<+:List.finRange (dg a).length ->(dg a).drop ((dg a).length - pre.length)=(dg b).drop ((dg a).length - pre.length))
def CmpX (w:World) (R:Nat) (t:TypeId) (a b:Nat) (c:Code) (pre:List (Fin (dg a).length)) (W:World):Prop:=
 c= .ret /\Below w.heap.size w W/\∃r:Int,W.heap[R]? =some (.cells #[.int .i64 r] t)/\(pre<+:List.finRange (dg a).length ->(r<0↔a<b)/\(r=0↔a=b))
theorem CmpI.from (W0:World) (a b N0:Nat) (h:W0.heap.size<=N0):OwnFrom N0 (CmpI W0 a b):=by
 rintro s X Y i ⟨d,f⟩ g c;exact⟨d.grown g (Nat.le_trans (Nat.le_refl _) d.size) (λk e=>by have:=(c k e).1;omega),f⟩
theorem CmpX.from (w:World) (R:Nat) (t:TypeId) (a b N0:Nat) (h:w.heap.size<=N0) (hR:R<N0) (c:Code):OwnFrom N0 (CmpX w R t a b c):=by
 rintro s X Y m ⟨j,f,r,g,l⟩ i d;refine⟨j,f.grown i f.size (λk e=>by have:=(d k e).1;omega),r,?_,l⟩;exact(i.block R (gsl g) (λe=>by have:=(d _ e.symm).1;omega)).trans g
theorem qCv (L:Nat->Prop) (a b:Nat) (va vb:Value) (w:World) (ha:NumL L .u32 w va a) (hb:NumL L .u32 w vb b) (hma:(dg a).length <=100000000) (hmb:(dg b).length <=100000000):
  Calls Tryz.prog 70 #[va,vb] w λe w'=>∃c:Int,e= .returned (.int .i64 c)/\Le w w'/\(c<0↔a<b)/\(c=0↔a=b):=by
 have Q:=ha.arr;obtain⟨Aa,ca,rfl,a1,a2,aN,a3⟩:=ha;obtain⟨Ab,cb,rfl,b1,b2,bN,b3⟩:=hb;unfold maxLen at a2 b2;have hB:=qAD;have⟨R,aD,ah,aE,aG,N⟩:=hyd6 Q a3 b3 aN bN hB;clear hB bN aN b3 a3 Q
 by_cases j:(dg a).length =(dg b).length
 ·refine(callsIn_wide (n:=5)).1 ?_;refine callsIn_of_wp_marks Tryz.func70 rfl trivial ?_ rfl;simp only[Tryz.ntmps70,List.size_toArray,List.length_cons,List.length_nil,Nat.reduceAdd,Nat.reduceSub,Array.replicate_succ,Array.replicate_zero,List.push_toArray,List.append_toArray,List.nil_append,List.cons_append];have an:(((dg a).length :Int)==((dg b).length :Int))=true:=by simp[j]
  have a4:¬((dg a).length :Int)≠((dg b).length :Int):=by simp[j]
  have y:=hyd1 j;clear j;gi_wp2_with (first | (refine⟨trivial,?_⟩;gi_at_call 53;refine(callsIn_wide.2 (qBq _ _ _ _)).mono ?_;rintro e w' ⟨rfl,rfl⟩));obtain⟨W0,P,aV,A,h0,h1,h2⟩:=qCu w (.cells #[.slice Ab (dg b).length cb] 42) (.cells #[.int .i64 0] 3) (.cells #[.slice Aa (dg a).length ca] 42);rw[P];clear P;have f:=qB4 (dg a) _ w W0 (w.heap.size+1+1) w.heap.size R.out (by omega) (by omega) (Nat.le_refl _) A (qAB h2);refine wpIn_rangeFunc_ownG rfl (by omega) (gf:=78) (lb:=#[.pointer (some ⟨w.heap.size+1+1,0,none⟩)]) rfl trivial (enters_of Tryz.func78 (by kernel_rfl) rfl)
   f Kept.trans (Kept.put (by omega) (by simp;omega)) (Below.refl _ _) (λ_=>rfl)
   (CmpI W0 a b) (CmpX w (w.heap.size+1) 3 a b) (CmpI.from _ _ _ _ (Nat.le_refl _)) (CmpX.from _ _ _ _ _ _ (by omega) (by omega)) ⟨Below.refl _ _,λ_=>by rw[List.length_nil,Nat.sub_zero,List.drop_eq_nil_of_le (Nat.le_refl _),List.drop_eq_nil_of_le (by rw[y.out];exact Nat.le_refl _)]⟩ ?_ ?_ ?_ ?_ ?_
  rotate_left
  ·intro l x W K hK;dsimp only[qDN];gi_wp2;exact hK
  ·rintro l C x W ⟨d,O⟩ al;have hx:=x.2;have Z:=y.out;obtain⟨m,hm⟩:∃m,(dg a).length - 1 - x.1=m:=⟨_,rfl⟩;have M:m<(dg a).length :=by omega
   have G:m<(dg b).length :=by omega
   have c0:=(d.cell (p:=⟨w.heap.size,0,none⟩) (by show w.heap.size<W0.heap.size;omega)).trans (qAB h0);have B:=(d.block (w.heap.size+1) (by omega)).trans h1;have cR:=qAB B;have fR:=fz0 B 0;obtain⟨bb,ob,rfl,-,ak,V⟩:=ah.out (by omega);have X:=((A.trans (d.mono (by omega))).cell (p:=⟨bb,ob+m,none⟩) ak).trans (V m G);unfold gv at X;clear V;obtain⟨g,hg⟩:∃g,(dg a)[m]?.getD 0=g:=⟨_,rfl⟩;obtain⟨h,hh⟩:∃h,(dg b)[m]=h:=⟨_,rfl⟩;have J:(dg a)[m]=g:=by rw[<-hg];simp[M]
   have aR:g<1000000000:=by rw[<-J,<-N.out];exact qAS _ _ _
   have aS:h<1000000000:=by rw[<-hh,<-N.out];exact qAS _ _ _
   rw[hh]at X;rw[hm,hg]
   have H:C++[x]<+:List.finRange (dg a).length ->(dg a).drop (m+1)=(dg b).drop (m+1)/\(dg a).length - (C++[x]).length =m:=λhp=>by
    obtain⟨ao,aU⟩:=qBp hp;have:=O ao;rw[show(dg a).length - C.length=m+1 by omega]at this;exact⟨this,by simp;omega⟩
   have i:Below w.heap.size w W:=A.trans (d.mono (by omega));clear O f;have⟨F,aQ,Y,z,q,k,I,aa⟩:=hyd8 J hg hh H d i B Z;have aT:=hyd1 hm;clear hm Z B i d H hh hg J
   by_cases e:g=h
   ·subst e;gi_wp2;refine⟨KeepsFrom.refl _ _,Kept.refl _ _ _,q.out,λhp=>?_⟩;obtain⟨k1,k2⟩:=z.out hp;rw[k2];exact qEd aa.out m M k1 (F.out.trans Y.out.symm)
   ·have a5:((g:Int) != (h:Int))=true:=by simpa using(λh=>e (by omega))
    have a6:¬(g:Int)=(h:Int):=by omega
    gi_wp2;refine⟨(KeepsOthers.setCell _ _ _).from _,rfl,k.out.setCell (p:=⟨w.heap.size+1,0,none⟩) (by show w.heap.size<=w.heap.size+1;omega) _,(g:Int) - h,qAX I.out,λhp=>?_⟩;obtain⟨k1,k2⟩:=z.out hp;have Z:=aa.out;have e1:=F.out;have e2:=Y.out
    rcases Nat.lt_or_ge g h with hgh|hgh
    ·have:=qCU Z m M k1 (by rw[e1,e2];exact hgh);exact⟨by omega,by omega⟩
    ·have:=qCU Z.symm m G k1.symm (by rw[e1,e2];omega);exact⟨by omega,by omega⟩
  ·rintro D ys W hD rfl ⟨d,O⟩ s;have B:=(d.block (w.heap.size+1) (by omega)).trans h1;have cR:=qAB B;have fR:=fz0 B 0
   have S:a=b:=by
    have:=O (qBe _);rw[List.length_finRange,Nat.sub_self]at this;exact qEe this
   have i:Below w.heap.size w W:=A.trans (d.mono (by omega));clear O f;have⟨q,k,I,t,E⟩:=hyd5 d i B s S;clear S s B i d;gi_wp2;refine qBC w.heap.size [{target:= .collected D,args:=#[]}] _ ⟨⟨D,rfl,by omega,?_,by simp⟩,trivial⟩ λw9 hb o=>?_
   ·exact(Below.heap_setCell _ _ _ _ (show D≠w.heap.size+1 by omega)).trans t.out
   ·have c9:=qAB (o _ _ (qAX I.out) rfl);have aj:Le w w9:=(k.out.setCell (p:=⟨w.heap.size+1,0,none⟩) (by show w.heap.size<=w.heap.size+1;omega) _).trans hb;exact⟨_,by simp[results,Tryz.results70,go_sem,c9],0,rfl,aj,by have:=E.out;omega,by have:=E.out;simp[this]⟩
  ·rintro D cc C W hD ac ⟨rfl,d,r,hr,hc⟩ s;have T:=hc ac;clear f hc;have⟨ap,q,t,U⟩:=hyd4 hr d s T;clear T s d hr;gi_wp2;refine qBC w.heap.size [{target:= .collected D,args:=#[]}] _ ⟨⟨D,rfl,by omega,t.out,by simp⟩,trivial⟩ λw9 hb o=>?_;have c9:=qAB (o _ _ ap.out rfl);exact⟨_,by simp[results,Tryz.results70,go_sem,c9],r,rfl,q.out.trans hb,U.out⟩
 ·have an:(((dg a).length :Int)==((dg b).length :Int))=false:=by simp;omega
  go_enter Tryz.func70,Tryz.ntmps70;go_wp2;refine bodyPost_ret (v:= .int .i64 (((dg a).length :Int) - ((dg b).length :Int))) (by simp[results,Tryz.results70,go_sem]) rfl ⟨_,rfl,alc2 _ _ _,?_,?_⟩
  ·rcases Nat.lt_or_ge (dg a).length (dg b).length with h|h
   ·have:=qB0 h;omega
   ·have:=qB0 (m:=b) (n:=a) (by omega);omega
  ·constructor
   ·intro h;omega
   ·rintro rfl;exact absurd rfl j
end Go.Proofs.YtfmfefibadpobaaGreatDoor
